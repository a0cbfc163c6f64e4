/- Texts that the proof needs: ShaSys, ShaPlain, ShaRun, CirLaws, ShaComp, ShaCap, ShaLaw1, ShaVal, ShaIdx, CirGraph, CirOwn, CirOf, CirVisit, CirReached, CirTurned, CirMem, ShaReg. -/
import Derived.BigQuiet
import Derived.Deep.Quiet
import Derived.Laws.AppendOwn
import Derived.Deep.OwnRows
import Derived.Deep.RegionHeld3
import Derived.Maps.AppendAt
import Derived.Laws.EntriesVeiled
import Derived.Test.YtilodknkildkbaaGreatDoorKdA
import Derived.Test.YtilodknkildkbaaGreatDoorKdB
import Derived.Test.YtilodknkildkbaaGreatDoorKdC
import Derived.Test.YtilodknkildkbaaGreatDoorKdD
import Derived.Test.YtilodknkildkbaaGreatDoorKdE
set_option maxHeartbeats 16000000
set_option maxRecDepth 1000000
namespace Go.Proofs.YtilodknkildkbaaGreatDoor
theorem tkdF{P:Program}{md:Region.Mode}{ops:Array Oper}{Q:Exit->Act->World->Prop}{S:World->Prop}{oi:Oper}{v:Value}{fuel:Nat}{listed:Array Bool}{a:Act}{w:World}(i:Nat)(hi:ops[i]?=some oi)(hS:S w)(hy:YieldsIf P ops S oi v a)(h:wpAnyH P md ops Q S fuel (listed.setIfInBounds i true) (a.put oi.dst v) w)(hs:Region.noSelect ops=true:=by kernel_rfl)(hf:Region.free md ops listed i=true:=by kernel_rfl)(hr:(Region.ready md ops listed).contains i=true:=by kernel_rfl)(hQ:∀c a w,Q (.panic c) (a.put oi.dst v) w->Q (.panic c) a w:=by exact fun _ _ _ h=>h):wpAnyH P md ops Q S (fuel+1) listed a w:=wpAnyH_take hi hs hf hr hQ hy hS h
section
namespace Sh
open Nt
theorem KT {S:Rat->Bool} {n k:Nat} {M:Mx}:∀{m:Nat},m<=n ->
 (∀i,i<m->i≠k->∀j,k<=j->j<=n->S (M i k)=true/\S (M k j)=true/\S (M i j)=true/\S (M i k*M k j)=true) ->
 AM S n k m M=some fun i j=>if i<m/\i≠k/\k<=j then M i j-M i k*M k j else M i j:=by
 intro m
 induction m with
 | zero =>
   intro _ _;unfold AM
   congr 1
 | succ m ih =>
   intro hm hS;unfold AM;rw[ih (by omega) fun i hi=>hS i (by omega)];rw[Option.bind_some];unfold BO;have e1:∀j,(if m<m/\m≠k/\k<=j then M m j-M m k*M k j else M m j)=M m j:=fun j=>if_neg fun h=>absurd h.1 (Nat.lt_irrefl _);have e2:∀j,(if k<m/\k≠k/\k<=j then M k j-M k k*M k j else M k j)=M k j:=fun j=>if_neg fun h=>h.2.1 rfl
   by_cases c:m=k∨M m k=0
   · rw [if_pos (by dsimp only;rw[e1];exact c)]
     congr 1
     funext i j
     by_cases e:i=m
     · subst e;rw[e1]
       by_cases d:i≠k/\k<=j
       · rw[if_pos ⟨by omega,d⟩]
         rcases c with c | c
         · exact absurd c d.1
         · rw[c];grind
       · rw[if_neg fun h=>d h.2]
     · by_cases d:i<m/\i≠k/\k<=j
       · rw[if_pos d,if_pos ⟨by omega,d.2⟩]
       · rw[if_neg d,if_neg fun h=>d ⟨by omega,h.2⟩]
   · have a:m≠k:=fun e=>c (.inl e);rw[if_neg (by dsimp only;rw[e1];exact c),if_pos]
     · congr 1
       funext i j
       unfold Dz;dsimp only
       by_cases e:i=m
       · subst e;rw[e1,e1,e2]
         by_cases d:k<=j
         · rw[if_pos ⟨rfl,d⟩,if_pos ⟨by omega,a,d⟩]
         · rw[if_neg fun h=>d h.2,if_neg fun h=>d h.2.2]
       · rw[if_neg fun h=>e h.1]
         by_cases d:i<m/\i≠k/\k<=j
         · rw[if_pos d,if_pos ⟨by omega,d.2⟩]
         · rw[if_neg d,if_neg fun h=>d ⟨by omega,h.2⟩]
     · rw[EZ];intro j h1 h2;rw[e1,e1,e2];exact hS m (by omega) a j h1 h2
theorem M9 {n k:Nat} {M:Mx} (hk:k<n) (h:M k k≠0):Da n k M (n-k)=some k :=
 H4 (by omega) (by omega) hk h fun i a b=>by omega
theorem Pe (k:Nat) (M:Mx):Bu k k M=M:=by
 funext i
 unfold Bu
 split
 · next h=>rw[h]
 · rfl
theorem KN {S:Rat->Bool} {n k:Nat} {M:Mx} (hk:k<n) (hu:Unit n k M) (h0:M k k≠0)
 (h1:∀i j,i<n->j<=n->S (M i j)=true) (h2:∀j,j<=n->S (Cy k M k j)=true) (h3:∀i j,i<n->j<=n->S (M i k*Cy k M k j)=true):∃M',Db S n k M=.ok M'/\∀i j,i<n->M' i j=Cy k M i j:=by
 have ad:M k k*(M k k)⁻¹=1:=Rat.mul_inv_cancel _ h0;have hz:=hu.zeros hk (Nat.le_refl _)
 have d:∀j,Bn k M k j=Cy k M k j:=fun j=>by
  unfold Bn Cy;rw[if_pos rfl]
  by_cases c:k<=j
  · rw[if_pos ⟨rfl,c⟩,Rat.div_def]
  · rw[if_neg fun h=>c h.2,hz j (by omega)];grind
 have a:∀i j,i≠k->Bn k M i j=M i j:=fun i j e=>by unfold Bn;rw[if_neg fun h=>e h.1]
 have he:=KT (S:=S) (n:=n) (k:=k) (M:=Bn k M) (Nat.le_refl n) fun i hi aa j _ hj=>by
  rw[a i k aa,d,a i j aa];exact⟨h1 i k hi (by omega),h2 j hj,h1 i j hi hj,h3 i j hi hj⟩
 refine⟨fun i j=>if i<n/\i≠k/\k<=j then Bn k M i j-Bn k M i k*Bn k M k j else Bn k M i j,?_,?_⟩
 · unfold Db;rw[M9 hk h0];dsimp only;rw[Pe,if_pos,he];rw[EY];intro j _ hj;exact⟨h1 k j hk hj,h1 k k hk (by omega)⟩
 · intro i j hi
   by_cases e:i=k
   · subst e;dsimp only;rw[if_neg fun h=>h.2.1 rfl,d]
   · unfold Cy;dsimp only;rw[if_neg e]
     by_cases c:k<=j
     · rw[if_pos ⟨hi,e,c⟩,a i j e,a i k e,d];unfold Cy;rw[if_pos rfl]
     · rw[if_neg fun h=>c h.2.2,a i j e,hz j (by omega)];grind
def Fit (B:Nat) (x:Rat):Prop:=-1<=x/\x<=1/\∃d:Nat,0<d/\d<=B/\IsI ((d:Rat)*x)
theorem Shs.congr {n:Nat} {M M':Mx} {v:Nat->Rat} (h:Shs n M v) (e:∀i j,i<n->M' i j=M i j):Shs n M' v:=by
 refine⟨fun i hi=>by rw[e i i hi];exact h.le1 i hi,fun i j hi hj hn=>by rw[e i j hi];exact h.off i j hi hj hn,fun i hi=>by rw[e i n hi];exact h.rhs i hi,fun i hi=>?_,fun i hi=>?_,h.vnn⟩
 · rw[e i n hi,Az (f:=M' i) (g:=M i) fun j _=>e i j hi];exact h.slack i hi
 · rw[Az (g:=fun j=>M i j*v j) fun j _=>by rw[e i j hi]];exact h.pos i hi
theorem Mad.congr {n k:Nat} {A M M':Mx} (h:Mad n k A M) (e:∀i j,i<n->M' i j=M i j):Mad n k A M':=by
 refine⟨fun i j hi hj=>by rw[e i j hi];exact h.unit i j hi hj,fun i hi=>?_,?_⟩
 · obtain⟨y,h1,h2⟩:=h.comb i hi;exact⟨y,h1,fun j hj=>by rw[e i j hi];exact h2 j hj⟩
 · obtain⟨P,h1,h2,h3⟩:=h.dets;exact⟨P,h1,h2,fun K a b=>by rw[h3 K a b,Ed fun i j hi _=>(e i j (by omega)).symm]⟩
theorem IsI.nat (n:Nat):IsI (n:Rat):=⟨n,(Rat.intCast_natCast n).symm⟩
theorem IsI.toNat {x:Rat} (h:IsI x) (h0:0<x):∃d:Nat,x=(d:Rat)/\0<d:=by
 obtain⟨z,rfl⟩:=h
 have h1:0<z:=by
  have:((0:Int):Rat)<(z:Rat):=h0;exact Rat.intCast_lt_intCast.1 this
 refine⟨z.toNat,?_,by omega⟩;have:((z.toNat:Nat):Int)=z:=by omega
 rw[<-Rat.intCast_natCast,this]
theorem MA {a b:Nat} (h:(a:Rat)<=(b:Rat)):a<=b:=Rat.natCast_le_natCast.1 h
theorem GM {c:Rat} (h:0<c) (n:Nat):0<c^n:=by
 induction n with
 | zero=>rw[Rat.pow_zero];decide
 | succ n ih=>rw[Rat.pow_succ];exact Rat.mul_pos ih h
structure Sys (n c D:Nat) (A:Mx) (v:Nat->Rat):Prop where
 shs:Shs n A v
 cp:0<c
 dp:0<D
 lhs:∀i j,i<n->j<n->IsI ((c:Rat)*A i j)
 rgt:∀i,i<n->IsI ((c:Rat)*(D:Rat)*A i n)
theorem Sys.det_nat {n c D k:Nat} {A M:Mx} {v:Nat->Rat} (h:Sys n c D A v) (hm:Mad n k A M) (hk:k<=n):∃d:Nat,0<d/\d<=c^k/\(c:Rat)^k*det k A=(d:Rat):=by
 obtain⟨d1,d2⟩:=hm.det_k hk;have hc:0<(c:Rat):=by have:=h.cp;exact Rat.natCast_pos.2 this
 have hI:IsI ((c:Rat)^k*det k A):=by
  have:=JM (n:=k) (s:=fun _=>(c:Rat)) (M:=A) fun i j hi hj=>h.lhs i j (by omega) (by omega)
  rwa [Ey]at this
 obtain⟨d,e1,e2⟩:=hI.toNat (Rat.mul_pos (GM hc k) d1);refine⟨d,e2,MA ?_,e1⟩;rw[<-e1,Rat.natCast_pow];have:=Rat.mul_le_mul_of_nonneg_left d2 (Rat.le_of_lt (GM hc k));grind
theorem Sys.fit {n c D k i j:Nat} {A M:Mx} {v:Nat->Rat} (h:Sys n c D A v) (hm:Mad n k A M) (hs:Shs n M v) (hk:k<=n) (hi:i<n) (hj:j<=n):Fit (c^(n+1)*D) (M i j):=by
 obtain⟨a1,a2⟩:=hs.abs hi hj;obtain⟨d,d1,d2,d3⟩:=h.det_nat hm hk;refine⟨a1,a2,d*(c*D),Nat.mul_pos d1 (Nat.mul_pos h.cp h.dp),?_,?_⟩
 · have h1:d<=c^n:=Nat.le_trans d2 (Nat.pow_le_pow_right h.cp hk);rw[Nat.pow_succ,Nat.mul_assoc];exact Nat.mul_le_mul_right _ h1
 · have:=hm.int_all hk (IsI.nat c) h.lhs h.rgt (IsI.nat D) hi hj;rw[d3]at this
   simpa [Rat.natCast_mul] using this
theorem Sys.solve {S:Rat->Bool} {n c D:Nat} {A:Mx} {v:Nat->Rat} (h:Sys n c D A v) (hS:∀x,Fit ((c^(n+1)*D)*(c^(n+1)*D)) x->S x=true) :
 ∀k,k<=n->∃M,A6 S n k A=.ok M/\Shs n M v/\Mad n k A M:=by
 have hB:0<c^(n+1)*D:=Nat.mul_pos (Nat.pow_pos h.cp) h.dp
 have aa:∀x,Fit (c^(n+1)*D) x->S x=true:=fun x hx=>by
  obtain⟨a1,a2,d,d1,d2,d3⟩:=hx;refine hS x ⟨a1,a2,d,d1,Nat.le_trans d2 ?_,d3⟩;exact Nat.le_mul_of_pos_left _ hB
 have ae:∀x y,Fit (c^(n+1)*D) x->Fit (c^(n+1)*D) y->S (x*y)=true:=fun x y hx hy=>by
  obtain⟨a1,a2,d,d1,d2,d3⟩:=hx;obtain⟨b1,b2,e,e1,e2,e3⟩:=hy
  have ad:x*y<=1/\-1<=x*y:=by
   have p1:=Rat.mul_nonneg (a:=1-x) (b:=1-y) (by grind) (by grind);have p2:=Rat.mul_nonneg (a:=1+x) (b:=1+y) (by grind) (by grind);have p3:=Rat.mul_nonneg (a:=1-x) (b:=1+y) (by grind) (by grind);have p4:=Rat.mul_nonneg (a:=1+x) (b:=1-y) (by grind) (by grind);constructor
   · grind
   · grind
  refine hS _ ⟨ad.2,ad.1,d*e,Nat.mul_pos d1 e1,Nat.mul_le_mul d2 e2,?_⟩;have:=d3.mul e3;have e:(d:Rat)*x*((e:Rat)*y)=((d*e:Nat):Rat)*(x*y):=by rw[Rat.natCast_mul];grind
  rwa [e]at this
 intro k
 induction k with
 | zero=>intro _;exact⟨A,rfl,h.shs,Mad.start n A⟩
 | succ k ih =>
   intro hk;obtain⟨M,m1,m2,m3⟩:=ih (by omega);have hp:=m2.piv (show k<n by omega);have s1:=m2.step (show k<n by omega);have s2:=m3.step m2 (show k<n by omega);have f1:∀i j,i<n->j<=n->Fit (c^(n+1)*D) (M i j):=fun i j hi hj=>h.fit m3 m2 (by omega) hi hj;have f2:∀i j,i<n->j<=n->Fit (c^(n+1)*D) (Cy k M i j):=fun i j hi hj=>h.fit s2 s1 hk hi hj;obtain⟨M',e1,e2⟩:=KN (S:=S) (show k<n by omega) m3.unit (by grind) (fun i j hi hj=>aa _ (f1 i j hi hj)) (fun j hj=>aa _ (f2 k j (by omega) hj)) fun i j hi hj=>ae _ _ (f1 i k hi (by omega)) (f2 k j (by omega) hj);refine⟨M',?_,s1.congr fun i j hi=>e2 i j hi,s2.congr fun i j hi=>e2 i j hi⟩;unfold A6;rw[m1];exact e1
theorem Sys.result {S:Rat->Bool} {n c D:Nat} {A:Mx} {v:Nat->Rat} (h:Sys n c D A v) (hS:∀x,Fit ((c^(n+1)*D)*(c^(n+1)*D)) x->S x=true) :
 ∃M,A6 S n n A=.ok M/\(∀y,Sol n A y (fun i=>A i n)↔∀i,i<n->y i=M i n)/\(∀i,i<n->0<=M i n/\M i n<=1)/\∃d:Nat,0<d/\d<=c^n/\∀i,i<n->IsI ((d*D:Nat)*M i n):=by
 obtain⟨M,m1,m2,m3⟩:=h.solve hS n (Nat.le_refl n);obtain⟨d,d1,d2,d3⟩:=h.det_nat m3 (Nat.le_refl n);refine⟨M,m1,(Vh m1).1,fun i hi=>⟨m2.rhs i hi,(m2.abs hi (Nat.le_refl n)).2⟩,d,d1,d2,fun i hi=>?_⟩;have:=m3.int_top (Nat.le_refl n) h.lhs h.rgt (IsI.nat D) hi (Nat.le_refl n);rw[d3]at this;rw[Rat.natCast_mul];exact this
end Sh
end
section
namespace Sh
open Nt Ci
abbrev Lp:=Nat×Nat×Rat
def An (p:Nat) (f:Nat->Rat):List Lp->Rat
 | []=>0
 | x::l=>(if x.1=p then x.2.2*f x.2.1 else 0)+An p f l
theorem CK {p:Nat} {f g:Nat->Rat} {L:List Lp} (h:∀x,x∈L->x.1=p->f x.2.1=g x.2.1):An p f L=An p g L:=by
 induction L with
 | nil=>rfl
 | cons x l ih =>
   unfold An;rw[ih fun y hy=>h y (List.mem_cons_of_mem _ hy)]
   by_cases e:x.1=p
   · rw[if_pos e,if_pos e,h x List.mem_cons_self e]
   · rw[if_neg e,if_neg e]
theorem Ia (p:Nat) (f g:Nat->Rat) (L:List Lp):An p (fun h=>f h+g h) L=An p f L+An p g L:=by
 induction L with
 | nil=>exact(Rat.add_zero 0).symm
 | cons x l ih=>unfold An;rw[ih];split<;>grind
theorem EJ (p:Nat) (c:Rat) (f:Nat->Rat) (L:List Lp):An p (fun h=>c*f h) L=c*An p f L:=by
 induction L with
 | nil=>exact(Rat.mul_zero c).symm
 | cons x l ih=>unfold An;rw[ih];split<;>grind
theorem RC (p:Nat) (f g:Nat->Rat) (L:List Lp):An p (fun h=>f h-g h) L=An p f L-An p g L:=by
 induction L with
 | nil=>show (0:Rat)=0-0;grind
 | cons x l ih=>unfold An;rw[ih];split<;>grind
theorem Ef {p:Nat} {f:Nat->Rat} {L:List Lp} (h:∀x,x∈L->x.1=p->f x.2.1=0):An p f L=0:=by
 have h1:=EJ p 0 f L;rw[CK (g:=fun h=>0*f h) fun x hx e=>by rw[h x hx e,Rat.zero_mul],h1,Rat.zero_mul]
theorem RD (p n:Nat) (g:Nat->Nat->Rat) (L:List Lp):Ao n (fun j=>An p (g j) L)=An p (fun h=>Ao n fun j=>g j h) L:=by
 induction n with
 | zero=>exact(Ef fun _ _ _=>rfl).symm
 | succ n ih =>
   show (Ao n fun j=>An p (g j) L)+An p (g n) L=_
   rw[ih,<-Ia];rfl
structure Caps (n:Nat) (L:List Lp):Prop where
 lt:∀x,x∈L->x.1<n/\x.2.1<n
 whole:∀x,x∈L->IsI (6000*x.2.2)
 pos:∀x,x∈L->0<x.2.2
 le1:∀p,An p (fun _=>1) L<=1
def Am (L:List Lp):List (Nat×Nat):=L.map fun x=>(x.2.1,x.1)
theorem JO {p:Nat} {f g:Nat->Rat} {L:List Lp} (hp:∀x,x∈L->0<x.2.2) (h:∀x,x∈L->x.1=p->f x.2.1<=g x.2.1):An p f L<=An p g L:=by
 induction L with
 | nil=>exact Rat.le_refl
 | cons x l ih =>
   unfold An;have h1:=ih (fun y hy=>hp y (List.mem_cons_of_mem _ hy)) fun y hy=>h y (List.mem_cons_of_mem _ hy)
   by_cases e:x.1=p
   · rw[if_pos e,if_pos e];have h2:=Rat.mul_le_mul_of_nonneg_left (h x List.mem_cons_self e) (Rat.le_of_lt (hp x List.mem_cons_self));grind
   · rw[if_neg e,if_neg e];grind
theorem FS {p:Nat} {f g:Nat->Rat} {L:List Lp} (hp:∀x,x∈L->0<x.2.2) (h:∀x,x∈L->x.1=p->f x.2.1<=g x.2.1) {x0:Lp} (h0:x0∈L) (e0:x0.1=p):An p f L+x0.2.2*(g x0.2.1-f x0.2.1)<=An p g L:=by
 induction L with
 | nil=>cases h0
 | cons x l ih =>
   unfold An
   rcases List.mem_cons.1 h0 with rfl | h0
   · rw[if_pos e0,if_pos e0];have h1:=JO (p:=p) (f:=f) (g:=g) (L:=l) (fun y hy=>hp y (List.mem_cons_of_mem _ hy)) fun y hy=>h y (List.mem_cons_of_mem _ hy);grind
   · have h1:=ih (fun y hy=>hp y (List.mem_cons_of_mem _ hy)) (fun y hy=>h y (List.mem_cons_of_mem _ hy)) h0
     by_cases e:x.1=p
     · rw[if_pos e,if_pos e];have h2:=Rat.mul_le_mul_of_nonneg_left (h x List.mem_cons_self e) (Rat.le_of_lt (hp x List.mem_cons_self));grind
     · rw[if_neg e,if_neg e];grind
theorem BU {p:Nat} {f:Nat->Rat} {L:List Lp} (hp:∀x,x∈L->0<x.2.2) (h:∀x,x∈L->x.1=p->0<=f x.2.1):0<=An p f L:=by
 have:=JO (p:=p) (f:=fun _=>0) (g:=f) hp h
 rwa [Ef fun _ _ _=>rfl]at this
theorem Caps.le_of {n p:Nat} {L:List Lp} {f:Nat->Rat} {c:Rat} (h:Caps n L) (hc:0<=c) (hf:∀x,x∈L->x.1=p->f x.2.1<=c):An p f L<=c:=by
 have h1:=JO (p:=p) (f:=f) (g:=fun h=>c*(fun _=>1) h) h.pos fun x hx e=>by rw[Rat.mul_one];exact hf x hx e
 rw[EJ]at h1;have h2:=Rat.mul_le_mul_of_nonneg_left (h.le1 p) hc;grind
theorem Caps.int_sum {n p:Nat} {L:List Lp} {f:Nat->Rat} {D:Rat} (h:Caps n L) (hf:∀x,x∈L->x.1=p->IsI (D*f x.2.1)):IsI (6000*D*An p f L):=by
 have hw:=h.whole;clear h
 induction L with
 | nil=>show IsI (6000*D*0);rw[Rat.mul_zero];exact IsI.zero
 | cons x l ih =>
   unfold An;have h1:=ih (fun y hy=>hf y (List.mem_cons_of_mem _ hy)) fun y hy=>hw y (List.mem_cons_of_mem _ hy)
   by_cases e:x.1=p
   · rw[if_pos e];have h2:=(hw x List.mem_cons_self).mul (hf x List.mem_cons_self e);have e2:6000*D*(x.2.2*f x.2.1+An p f l)=6000*x.2.2*(D*f x.2.1)+6000*D*An p f l:=by grind
     rw[e2];exact h2.add h1
   · rw[if_neg e];have e2:6000*D*(0+An p f l)=6000*D*An p f l:=by grind
     rw[e2];exact h1
theorem TQ {x:Rat} (h1:IsI (6000*x)) (h2:0<x):1/6000<=x:=by
 obtain⟨d,e,hd⟩:=h1.toNat (by grind)
 have h3:(1:Rat)<=(d:Rat):=by
  have:((1:Nat):Rat)<=(d:Rat):=Rat.natCast_le_natCast.2 hd
  simpa using this
 grind
theorem IA {n:Nat} {L:List Lp} (hL:Caps n L) (d:Nat->Rat) (ρ:Nat->Nat)
 (h:∀p,p<n->0<d p->d p<=An p d L/\∃x,x∈L/\x.1=p/\ρ x.2.1<ρ p):∀p,p<n->d p<=0:=by
 intro p0 ad
 have key : ∀ m,(∀p,p<m->d p<=0)∨∃q,q<m/\0<d q/\∀p,p<m->d p<d q∨(d p=d q/\ρ q<=ρ p):=by
  intro m
  induction m with
  | zero=>exact .inl fun p hp=>absurd hp (by omega)
  | succ m ih =>
    by_cases c:0<d m
    · rcases ih with ih | ⟨q,q1,q2,q3⟩
      · refine .inr ⟨m,by omega,c,fun p hp=>?_⟩
        by_cases e:p=m
        · subst e;exact .inr ⟨rfl,Nat.le_refl _⟩
        · have:=ih p (by omega);exact .inl (by grind)
      · by_cases c2:d q<d m∨(d q=d m/\ρ m<=ρ q)
        · refine .inr ⟨m,by omega,c,fun p hp=>?_⟩
          by_cases e:p=m
          · subst e;exact .inr ⟨rfl,Nat.le_refl _⟩
          · have:=q3 p (by omega)
            rcases c2 with c2 | ⟨c2,c3⟩
            · rcases this with t | ⟨t,_⟩
              · exact .inl (by grind)
              · exact .inl (by grind)
            · rcases this with t | ⟨t,t2⟩
              · exact .inl (by grind)
              · exact .inr ⟨by grind,by omega⟩
        · refine .inr ⟨q,by omega,q2,fun p hp=>?_⟩
          by_cases e:p=m
          · subst e
            by_cases c3:d p<d q
            · exact .inl c3
            · refine .inr ?_;have h1:¬d q<d p:=fun a=>c2 (.inl a);have h2:d p=d q:=by grind
              refine⟨h2,?_⟩
              rcases Nat.lt_or_ge (ρ p) (ρ q) with a | a
              · exact absurd (Or.inr ⟨h2.symm,by omega⟩) c2
              · exact a
          · exact q3 p (by omega)
    · rcases ih with ih | ⟨q,q1,q2,q3⟩
      · refine .inl fun p hp=>?_
        by_cases e:p=m
        · subst e;exact Rat.not_lt.1 c
        · exact ih p (by omega)
      · refine .inr ⟨q,by omega,q2,fun p hp=>?_⟩
        by_cases e:p=m
        · subst e;exact .inl (by have:=Rat.not_lt.1 c;grind)
        · exact q3 p (by omega)
 rcases key n with k | ⟨q,q1,q2,q3⟩
 · exact k p0 ad
 · exfalso;obtain⟨h1,x,x1,x2,x3⟩:=h q q1 q2
   have aa:∀y,y∈L->d y.2.1<=d q:=fun y hy=>by
    rcases q3 _ (hL.lt y hy).2 with a | ⟨a,_⟩
    · exact Rat.le_of_lt a
    · rw[a];exact Rat.le_refl
   have hg:=FS (p:=q) (f:=d) (g:=fun _=>d q) hL.pos (fun y hy _=>aa y hy) x1 x2;have h2:An q (fun _=>d q) L<=d q:=hL.le_of (Rat.le_of_lt q2) fun _ _ _=>Rat.le_refl
   have h3:d x.2.1<d q:=by
    rcases q3 _ (hL.lt x x1).2 with a | ⟨_,b⟩
    · exact a
    · omega
   have h4:=Rat.mul_pos (hL.pos x x1) (show 0<d q-d x.2.1 by grind);grind
def Bh (L:List Lp) (u:List Nat) (val:Nat->Rat):Mx:=fun i j =>
 let p:=u.getD i 0
 if j=u.length then An p (fun h=>if h∈u then 0 else val h) L
 else (if i=j then 1 else 0)-An p (fun h=>if h=u.getD j 0 then 1 else 0) L
def C5 (S:Rat->Bool) (L:List Lp) (u:List Nat) (val:Nat->Rat):Nat->Rat :=
 match A6 S u.length u.length (Bh L u val) with
 | .ok M=>fun p=>if p∈u then M (u.idxOf p) u.length else val p
 | .error _=>val
def MB (S:Rat->Bool) (L:List Lp):List (List Nat)->(Nat->Rat)->Nat->Rat
 | [],val=>val
 | u::us,val=>MB S L us (C5 S L u val)
theorem D3 {u:List Nat} {i:Nat} (h:i<u.length):u.getD i 0=u[i]:=by simp[List.getD,h]
theorem EK {u:List Nat} {i:Nat} (h:i<u.length):u.getD i 0∈u:=by
 rw[D3 h];exact List.getElem_mem h
theorem FT {u:List Nat} (hu:u.Nodup) {i:Nat} (h:i<u.length):u.idxOf (u.getD i 0)=i:=by
 rw[D3 h];exact hu.idxOf_getElem i h
theorem FU {u:List Nat} {p:Nat} (h:p∈u):u.getD (u.idxOf p) 0=p:=by
 have:=List.idxOf_lt_length_iff.2 h;rw[D3 this];exact List.getElem_idxOf this
theorem RE {u:List Nat} (hu:u.Nodup) (y:Nat->Rat) (h:Nat):(Ao u.length fun j=>(if h=u.getD j 0 then 1 else 0)*y j)=if h∈u then y (u.idxOf h) else 0:=by
 by_cases e:h∈u
 · rw [if_pos e,Cq (k:=u.idxOf h) _ (List.idxOf_lt_length_iff.2 e) fun j hj a=>?_]
   · rw[FU e,if_pos rfl,Rat.one_mul]
   · rw[if_neg,Rat.zero_mul];intro e2;rw[e2,FT hu hj]at a;exact a rfl
 · rw[if_neg e];exact CI fun j hj=>by rw[if_neg (fun e2=>e (by rw[e2];exact EK hj)),Rat.zero_mul]
theorem Ib {L:List Lp} {u:List Nat} {val:Nat->Rat} (hu:u.Nodup) {i:Nat} (hi:i<u.length) (y:Nat->Rat) :
 (Ao u.length fun j=>Bh L u val i j*y j)=y i-An (u.getD i 0) (fun h=>if h∈u then y (u.idxOf h) else 0) L:=by
 rw [Az (g:=fun j=>(if i=j then 1 else 0)*y j+(-1)*An (u.getD i 0) (fun h=>y j*if h=u.getD j 0 then 1 else 0) L) fun j hj=>by
  unfold Bh;dsimp only;rw[if_neg (by omega),EJ];grind]
 rw[CJ,AY,Cq (k:=i) _ hi fun j _ a=>by rw[if_neg (fun e=>a e.symm),Rat.zero_mul],if_pos rfl,Rat.one_mul,RD]
 rw [CK (g:=fun h=>if h∈u then y (u.idxOf h) else 0) fun x _ _=>by
  rw[<-RE hu];exact Az fun j _=>Rat.mul_comm _ _]
 grind
theorem RF {L:List Lp} {u:List Nat} {val:Nat->Rat} (hu:u.Nodup) (y:Nat->Rat) :
 Sol u.length (Bh L u val) y (fun i=>Bh L u val i u.length)↔∀i,i<u.length->y i=An (u.getD i 0) (fun h=>if h∈u then y (u.idxOf h) else val h) L:=by
 have key:∀i,i<u.length->((Ao u.length fun j=>Bh L u val i j*y j)=Bh L u val i u.length↔y i=An (u.getD i 0) (fun h=>if h∈u then y (u.idxOf h) else val h) L):=by
  intro i hi;rw[Ib hu hi,CK (f:=fun h=>if h∈u then y (u.idxOf h) else val h) (g:=fun h=>(if h∈u then y (u.idxOf h) else 0)+(if h∈u then 0 else val h)) fun x _ _=>by split<;>grind,Ia]
  have e:Bh L u val i u.length=An (u.getD i 0) (fun h=>if h∈u then 0 else val h) L:=by
   unfold Bh;dsimp only;rw[if_pos rfl]
  rw[e];constructor<;>intro h<;>grind
 unfold Sol;exact⟨fun h i hi=>(key i hi).1 (h i hi),fun h i hi=>(key i hi).2 (h i hi)⟩
end Sh
end
section
namespace Sh
open Nt Ci
theorem Fit.mono {B B':Nat} {x:Rat} (h:Fit B x) (hB:B<=B'):Fit B' x:=by
 obtain⟨a,b,d,d1,d2,d3⟩:=h;exact⟨a,b,d,d1,Nat.le_trans d2 hB,d3⟩
structure Inv (L:List Lp) (F:List Nat) (done:List Nat) (val:Nat->Rat) (D:Nat):Prop where
 rng:∀p,0<=val p/\val p<=1
 dp:0<D
 dle:D<=6000^done.length
 whole:∀p,IsI ((D:Rat)*val p)
 eqs:∀p,p∈done->val p=An p val L
 rest:∀p,p∉done->val p=if p∈F then 1 else 0
 clo:∀p,p∈done->∀x,x∈L->x.1=p->rk (Am L) F x.2.1<=0∨x.2.1∈done
 dn:∀p,p∈done->0<rk (Am L) F p
theorem Inv.start (L:List Lp) (F:List Nat):Inv L F [] (fun p=>if p∈F then 1 else 0) 1:=by
 refine⟨fun p=>?_,by omega,by simp,fun p=>?_,fun p h=>by simp at h,fun p _=>rfl,fun p h=>by simp at h,fun p h=>by simp at h⟩
 · split<;>constructor<;>decide
 · split
   · exact(IsI.nat 1).mul IsI.one
   · exact(IsI.nat 1).mul IsI.zero
structure Nxt (L:List Lp) (F:List Nat) (done u:List Nat):Prop where
 nodup:u.Nodup
 new:∀p,p∈u->p∉done
 pos:∀p,p∈u->0<rk (Am L) F p
 clo:∀p,p∈u->∀x,x∈L->x.1=p->rk (Am L) F x.2.1<=0∨x.2.1∈u∨x.2.1∈done
def Ready (L:List Lp) (F:List Nat):List Nat->List (List Nat)->Prop
 | _,[]=>True
 | done,u::us=>Nxt L F done u/\Ready L F (done++u) us
def tq:Rat:=1/12000
theorem Ic (k:Nat):0<tq^k/\tq^k<=1:=by
 induction k with
 | zero=>rw[Rat.pow_zero];constructor<;>decide
 | succ k ih =>
   rw[Rat.pow_succ];have h1:(0:Rat)<tq:=by unfold tq;grind
   refine⟨Rat.mul_pos ih.1 h1,?_⟩;have h2:=Rat.mul_le_mul_of_nonneg_left (show tq<=1 by unfold tq;grind) (Rat.le_of_lt ih.1);grind
theorem Gx {L:List Lp} {h p:Nat} (e:(h,p)∈Am L):∃x,x∈L/\x.1=p/\x.2.1=h:=by
 unfold Am at e;obtain⟨x,hx,e2⟩:=List.mem_map.1 e;injection e2 with a b;exact⟨x,hx,b,a⟩
theorem Je {L:List Lp} {x:Lp} (h:x∈L):(x.2.1,x.1)∈Am L:=List.mem_map.2 ⟨x,h,rfl⟩
theorem Nxt.sys {n D:Nat} {L:List Lp} {F done u:List Nat} {val:Nat->Rat} (hL:Caps n L) (hi:Inv L F done val D) (hx:Nxt L F done u) :
 Sys u.length 6000 D (Bh L u val) (fun j=>1-tq^(rk (Am L) F (u.getD j 0)).toNat):=by
 have one01:∀(c:Prop) [Decidable c],0<=(if c then (1:Rat) else 0):=fun c _=>by split<;>decide
 refine⟨⟨fun i aa=>?_,fun i j h1 h2 h3=>?_,fun i h1=>?_,fun i h1=>?_,fun i h1=>?_,fun j _=>?_⟩,by omega,hi.dp,fun i j h1 h2=>?_,fun i h1=>?_⟩
 · unfold Bh;dsimp only;rw[if_neg (by omega),if_pos rfl];have:=BU (p:=u.getD i 0) (f:=fun h=>if h=u.getD i 0 then 1 else 0) hL.pos fun x _ _=>one01 _;grind
 · unfold Bh;dsimp only;rw[if_neg (by omega),if_neg (fun e=>h3 e.symm)];have:=BU (p:=u.getD i 0) (f:=fun h=>if h=u.getD j 0 then 1 else 0) hL.pos fun x _ _=>one01 _;grind
 · unfold Bh;dsimp only;rw[if_pos rfl]
   exact BU hL.pos fun x _ _=>by
    split
    · exact Rat.le_refl
    · exact(hi.rng _).1
 · have h2:=Ib (L:=L) (val:=val) hx.nodup h1 (fun _=>1);rw[Az (g:=Bh L u val i) fun j _=>Rat.mul_one _]at h2;rw[h2];unfold Bh;dsimp only;rw[if_pos rfl]
   have h3:An (u.getD i 0) (fun h=>(if h∈u then 0 else val h)+if h∈u then 1 else 0) L<=1:=hL.le_of (by decide) fun x _ _=>by
    split
    · grind
    · have:=(hi.rng x.2.1).2;grind
   rw[Ia]at h3;grind
 · rw [Ib hx.nodup h1];have hp:=hx.pos _ (EK h1);obtain⟨r,hr⟩:∃r:Nat,rk (Am L) F (u.getD i 0)=((r+1:Nat):Int):=⟨(rk (Am L) F (u.getD i 0)).toNat-1,by omega⟩;obtain⟨h0,k1,k2⟩:=FB hr;obtain⟨x0,x1,x2,x3⟩:=Gx k2
   have hg:=FS (p:=u.getD i 0) (f:=fun h=>if h∈u then 1-tq^(rk (Am L) F (u.getD (u.idxOf h) 0)).toNat else 0) (g:=fun _=>1) hL.pos (fun y _ _=>by
    split
    · have:=(Ic (rk (Am L) F (u.getD (u.idxOf y.2.1) 0)).toNat).1;grind
    · decide) x1 x2
   have ad:=hL.le1 (u.getD i 0);have d:=TQ (hL.whole x0 x1) (hL.pos x0 x1)
   have a:tq^r<=1-(if x0.2.1∈u then 1-tq^(rk (Am L) F (u.getD (u.idxOf x0.2.1) 0)).toNat else 0):=by
    split
    · next e =>
      rw[FU e,x3,k1]
      show tq^r<=1-(1-tq^((r:Int)).toNat)
      rw[Int.toNat_natCast];grind
    · have:=(Ic r).2;grind
   have e1:((rk (Am L) F (u.getD i 0)).toNat)=r+1:=by rw[hr];exact Int.toNat_natCast _
   rw[e1,Rat.pow_succ];have h5:=Rat.mul_le_mul_of_nonneg_left a (Rat.le_of_lt (hL.pos x0 x1));have h6:=Rat.mul_le_mul_of_nonneg_left d (Rat.le_of_lt (Ic r).1);have h7:tq^r*tq<tq^r*(1/6000):=Rat.mul_lt_mul_of_pos_left (by unfold tq;grind) (Ic r).1;grind
 · have:=(Ic (rk (Am L) F (u.getD j 0)).toNat).2;grind
 · unfold Bh;dsimp only;rw[if_neg (by omega)]
   have h3:=hL.int_sum (p:=u.getD i 0) (f:=fun h=>if h=u.getD j 0 then 1 else 0) (D:=1) fun x _ _=>by
    split
    · exact IsI.one.mul IsI.one
    · exact IsI.one.mul IsI.zero
   have h4:IsI ((if i=j then 1 else 0)*6000):=by
    split
    · exact IsI.one.mul (IsI.nat 6000)
    · exact IsI.zero.mul (IsI.nat 6000)
   have e:((6000:Nat):Rat)*((if i=j then 1 else 0)-An (u.getD i 0) (fun h=>if h=u.getD j 0 then 1 else 0) L)=(if i=j then 1 else 0)*6000+-(6000*1*An (u.getD i 0) (fun h=>if h=u.getD j 0 then 1 else 0) L):=by
    rw[show ((6000:Nat):Rat)=6000 from rfl];grind
   rw[e];exact h4.add h3.neg
 · unfold Bh;dsimp only;rw[if_pos rfl]
   exact hL.int_sum fun x _ _=>by
    split
    · rw[Rat.mul_zero];exact IsI.zero
    · exact hi.whole _
theorem Jf {m d D:Nat} (h1:D<=6000^d) (h2:d+m<=16):(6000^(m+1)*D)*(6000^(m+1)*D)<=6000^34:=by
 have h3:6000^(m+1)*D<=6000^17:=by
  calc 6000^(m+1)*D<=6000^(m+1)*6000^d:=Nat.mul_le_mul_left _ h1
   _=6000^(m+1+d):=(Nat.pow_add _ _ _).symm
   _<=6000^17:=Nat.pow_le_pow_right (by omega) (by omega)
 calc _<=6000^17*6000^17:=Nat.mul_le_mul h3 h3
  _=6000^34:=(Nat.pow_add _ _ _).symm
theorem Inv.step {n D:Nat} {S:Rat->Bool} {L:List Lp} {F done u:List Nat} {val:Nat->Rat} (hL:Caps n L) (hS:∀x,Fit (6000^34) x->S x=true)
 (hi:Inv L F done val D) (hx:Nxt L F done u) (af:done.length+u.length<=16) :
 ∃M D',A6 S u.length u.length (Bh L u val)=.ok M/\Inv L F (done++u) (C5 S L u val) D':=by
 obtain⟨M,m1,m2,m3,d,d1,d2,d3⟩:=(hx.sys hL hi).result (S:=S) fun x h=>hS x (h.mono (Jf hi.dle af));have hv:C5 S L u val=fun p=>if p∈u then M (u.idxOf p) u.length else val p:=by unfold C5;rw[m1]
 have ag:=(RF (L:=L) (val:=val) hx.nodup fun i=>M i u.length).1 ((m2 _).2 fun _ _=>rfl);have ae:∀{p},p∈u->u.idxOf p<u.length:=fun h=>List.idxOf_lt_length_iff.2 h
 have ad:∀p,p∈done->An p (fun q=>if q∈u then M (u.idxOf q) u.length else val q) L=An p val L:=fun p hp=>CK fun x aa e=>by
  rw[if_neg];intro hm
  rcases hi.clo p hp x aa e with a | a
  · have:=hx.pos _ hm;omega
  · exact hx.new _ hm a
 refine⟨M,d*D,m1,?_⟩;rw[hv];refine⟨fun p=>?_,Nat.mul_pos d1 hi.dp,?_,fun p=>?_,fun p hp=>?_,fun p hp=>?_,fun p hp x aa e=>?_,fun p hp=>?_⟩
 · split
   · next e=>exact m3 _ (ae e)
   · exact hi.rng p
 · rw[List.length_append,Nat.pow_add,Nat.mul_comm];exact Nat.mul_le_mul hi.dle d2
 · split
   · next e=>exact d3 _ (ae e)
   · have:=(IsI.nat d).mul (hi.whole p)
     rwa [Rat.natCast_mul,Rat.mul_assoc]
 · by_cases e:p∈u
   · rw[if_pos e];have:=ag _ (ae e)
     rwa [FU e]at this
   · rw[if_neg e]
     rcases List.mem_append.1 hp with h | h
     · rw[ad p h];exact hi.eqs p h
     · exact absurd h e
 · rw[if_neg (fun h=>hp (List.mem_append_right _ h))];exact hi.rest p fun h=>hp (List.mem_append_left _ h)
 · rcases List.mem_append.1 hp with h | h
   · rcases hi.clo p h x aa e with a | a
     · exact .inl a
     · exact .inr (List.mem_append_left _ a)
   · rcases hx.clo p h x aa e with a | a | a
     · exact .inl a
     · exact .inr (List.mem_append_right _ a)
     · exact .inr (List.mem_append_left _ a)
 · rcases List.mem_append.1 hp with h | h
   · exact hi.dn p h
   · exact hx.pos p h
theorem Inv.run {n:Nat} {S:Rat->Bool} {L:List Lp} {F:List Nat} (hL:Caps n L) (hS:∀x,Fit (6000^34) x->S x=true) :
 ∀(us:List (List Nat)) (done:List Nat) (val:Nat->Rat) (D:Nat),Inv L F done val D->Ready L F done us->done.length+us.flatten.length<=16->∃D',Inv L F (done++us.flatten) (MB S L us val) D':=by
 intro us
 induction us with
 | nil=>intro done val D hi _ _;exact⟨D,by simpa [MB] using hi⟩
 | cons u us ih =>
   intro done val D hi hr a;rw[List.flatten_cons,List.length_append]at a;obtain⟨M,D',_,h⟩:=hi.step hL hS hr.1 (by omega);have:=ih (done++u) _ D' h hr.2 (by rw[List.length_append];omega);rw[List.flatten_cons,<-List.append_assoc];exact this
structure Eff (n:Nat) (L:List Lp) (F:List Nat) (e:Nat->Rat):Prop where
 rng:∀p,0<=e p/\e p<=1
 listed:∀p,p∈F->e p=1
 out:∀p,p<n->rk (Am L) F p<0->e p=0
 sum:∀p,p<n->p∉F->e p=An p e L
 pos:∀p,p<n->(0<e p↔0<=rk (Am L) F p)
theorem Inv.eff {n D:Nat} {L:List Lp} {F done:List Nat} {val:Nat->Rat} (hL:Caps n L) (hi:Inv L F done val D) (d:∀p,p<n->0<rk (Am L) F p->p∈done):Eff n L F val:=by
 have aa:InN n (Am L):=fun y hy=>by
  obtain⟨x,hx,rfl⟩:=List.mem_map.1 hy;exact⟨(hL.lt x hx).2,(hL.lt x hx).1⟩
 have hl:∀p,p∈F->val p=1:=fun p hp=>by
  have:p∉done:=fun h=>by
   have h1:=hi.dn p h;have h2:rk (Am L) F p=0:=ET.2 hp;omega
  rw[hi.rest p this,if_pos hp]
 have ho:∀p,p<n->rk (Am L) F p<0->val p=0:=fun p _ hr=>by
  rw[hi.rest p fun h=>by have:=hi.dn p h;omega,if_neg fun h=>by have:rk (Am L) F p=0:=ET.2 h;omega]
 have hs:∀p,p<n->p∉F->val p=An p val L:=fun p hp hF=>by
  by_cases c:0<rk (Am L) F p
  · exact hi.eqs p (d p hp c)
  · have c0:rk (Am L) F p≠0:=fun e=>hF (ET.1 e);rw[ho p hp (by omega)];refine(Ef fun x hx e=>ho _ (hL.lt x hx).2 ?_).symm
    rcases Int.lt_or_le (rk (Am L) F x.2.1) 0 with a | a
    · exact a
    · have:=J1 a (Je hx);rw[e]at this;omega
 refine⟨hi.rng,hl,ho,hs,fun p hp=>⟨fun h=>?_,fun h=>?_⟩⟩
 · rcases Int.lt_or_le (rk (Am L) F p) 0 with a | a
   · rw[ho p hp a]at h;exact absurd h (by decide)
   · exact a
 · obtain ⟨r,hr⟩:∃r:Nat,rk (Am L) F p=(r:Int):=⟨(rk (Am L) F p).toNat,by omega⟩;clear h
   induction r generalizing p with
   | zero=>rw[hl p (ET.1 hr)];decide
   | succ r ih =>
     have hF:p∉F:=fun h=>by have:rk (Am L) F p=0:=ET.2 h;omega
     obtain⟨h0,k1,k2⟩:=FB hr;obtain⟨x0,x1,x2,x3⟩:=Gx k2;have h4:=ih x0.2.1 (hL.lt x0 x1).2 (by rw[x3];exact k1);have h5:=FS (p:=p) (f:=fun _=>0) (g:=val) hL.pos (fun y _ _=>(hi.rng _).1) x1 x2;rw[Ef fun _ _ _=>rfl]at h5;rw[hs p hp hF];have h6:=Rat.mul_pos (hL.pos x0 x1) h4;grind
section eff
variable {n:Nat} {L:List Lp} {F:List Nat} {e:Nat->Rat}
theorem Eff.least (hL:Caps n L) (h:Eff n L F e) {v:Nat->Rat} (h0:∀p,p<n->0<=v p) (h1:∀p,p<n->p∈F->1<=v p) (h2:∀p,p<n->p∉F->An p v L<=v p):∀p,p<n->e p<=v p:=by
 intro p hp
 have:=IA hL (fun p=>e p-v p) (fun p=>(rk (Am L) F p).toNat) (fun p hp hd=>by
  have d:0<e p:=by have:=h0 p hp;grind
  have hr:=(h.pos p hp).1 d
  have hF:p∉F:=fun hm=>by
   have a:=h.listed p hm;have b:=h1 p hp hm;grind
  have aa:rk (Am L) F p≠0:=fun e=>hF (ET.1 e);refine⟨?_,?_⟩
  · rw[RC,<-h.sum p hp hF];have:=h2 p hp hF;grind
  · obtain⟨r,hr⟩:∃r:Nat,rk (Am L) F p=((r+1:Nat):Int):=⟨(rk (Am L) F p).toNat-1,by omega⟩;obtain⟨h0,k1,k2⟩:=FB hr;obtain⟨x0,x1,x2,x3⟩:=Gx k2;exact⟨x0,x1,x2,by rw[x3];omega⟩) p hp
 grind
theorem Eff.one (hL:Caps n L) {e':Nat->Rat} (h:Eff n L F e) (h':Eff n L F e'):∀p,p<n->e p=e' p:=fun p hp=>by
 have a:=h.least hL (fun q _=>(h'.rng q).1) (fun q _ hq=>by rw[h'.listed q hq];exact Rat.le_refl) (fun q hq hF=>by rw[<-h'.sum q hq hF];exact Rat.le_refl) p hp;have b:=h'.least hL (fun q _=>(h.rng q).1) (fun q _ hq=>by rw[h.listed q hq];exact Rat.le_refl) (fun q hq hF=>by rw[<-h.sum q hq hF];exact Rat.le_refl) p hp;grind
end eff
end Sh
end
section
namespace Ci
section
variable {E:List (Nat×Nat)} {n p q:Nat}
theorem Pf {l:List Nat} (h:l.Nodup) {i j:Nat} {hi:i<l.length} {hj:j<l.length} (e:l[i]=l[j]):i=j:=by
 have hp:=List.pairwise_iff_getElem.1 h
 rcases Nat.lt_trichotomy i j with c | c | c
 · exact absurd e (hp i j hi hj c)
 · exact c
 · exact absurd e.symm (hp j i hj hi c)
theorem KU (hE:InN n E):p∈ords n E↔p<n/\fst E p=p:=by
 unfold ords;rw[J3 n _ (Left.start hE) C7];exact By
theorem Idq (hE:InN n E):(ords n E).Nodup:=(IG n _ (Left.start hE) C7).1
theorem RG (hE:InN n E):(ords n E).length<=n:=by
 have:=(IG n _ (Left.start hE) C7).2;have h2:=C7 (n:=n) (E:=E);unfold ords;omega
theorem Gy:(As n E).length=(ords n E).length:=by simp[As]
theorem Fa {k:Nat} (hk:k<(As n E).length):(As n E)[k]=CW n E ((ords n E)[k]'(by simpa [As] using hk)):=by simp[As]
noncomputable def at' (n:Nat) (E:List (Nat×Nat)) (p:Nat):Nat:=(ords n E).idxOf (fst E p)
theorem Jg (hE:InN n E) (hp:p<n):at' n E p<(ords n E).length:=List.idxOf_lt_length_iff.2 ((KU hE).2 ⟨Gj hp,FC⟩)
theorem JP (hE:InN n E) (hp:p<n):(ords n E)[at' n E p]'(Jg hE hp)=fst E p:=List.getElem_idxOf (Jg hE hp)
theorem Gz (hE:InN n E) (hp:p<n) {k:Nat} (hk:k<(As n E).length):p∈(As n E)[k]↔k=at' n E p:=by
 have a:k<(ords n E).length:=by rwa [Gy]at hk
 have ho:=(KU hE).1 (List.getElem_mem a);rw[Fa,CR];constructor
 · rintro ⟨_,hm⟩
   have h1:(ords n E)[k]=(ords n E)[at' n E p]'(Jg hE hp):=by
    rw[JP hE hp,<-ho.2];exact Fu hm
   exact Pf (Idq hE) h1
 · intro e;subst e;refine⟨hp,?_⟩;rw[JP hE hp];exact Em.symm
theorem TR (hE:InN n E) (e:(p,q)∈E):at' n E p<=at' n E q:=by
 obtain⟨hp,hq⟩:=hE _ e;exact Og n _ (Left.start hE) C7 _ _ (Jg hE hp) (Jg hE hq) p q e (JP hE hp).symm (JP hE hq).symm
variable {F F':List Nat}
theorem KV {out:Nat->Int} (hF:∀f,f∈F->f<n/\out f=0) (hE:InN n E) (he:∀e,e∈E->0<=out e.1->0<=out e.2/\out e.2<=out e.1+1)
 (hd:∀x,x<n->out x=-1∨(out x=0/\x∈F)∨∃e,e∈E/\e.2=x/\0<=out e.1/\out x=out e.1+1) {x:Nat} (hx:x<n):rk E F x=out x:=by
 have up:∀k y,Ft E F y k->0<=out y/\out y<=k:=by
  intro k
  induction k with
  | zero=>intro y hy;have:=(hF y (Dh.1 hy)).2;omega
  | succ k ih =>
    intro y hy;obtain⟨z,hz,e⟩:=Di.1 hy;have h1:=ih z hz;have h2:=he _ e h1.1;simp only[]at h2;omega
 have dn:∀(k:Nat) y,y<n->out y=k->Ft E F y k:=by
  intro k
  induction k with
  | zero =>
    intro y hy h0
    rcases hd y hy with h1 | ⟨_,h1⟩ | ⟨e,_,_,h2,h3⟩
    · omega
    · exact Dh.2 h1
    · omega
  | succ k ih =>
    intro y hy h0
    rcases hd y hy with h1 | ⟨h1,_⟩ | ⟨e,h1,h4,h2,h3⟩
    · omega
    · omega
    · exact Di.2 ⟨e.1,ih _ (hE _ h1).1 (by omega),by rw[<-h4];exact h1⟩
 refine Uy ?_
 rcases hd x hx with h1 | h1
 · exact .inl ⟨h1,fun k hk=>by have:=up k x hk;omega⟩
 · have h0:0<=out x:=by
    rcases h1 with⟨h2,_⟩ | ⟨e,_,_,h2,h3⟩<;>omega
   exact .inr ⟨(out x).toNat,by omega,dn _ x hx (by omega),fun j hj hw=>by have:=up j x hw;omega⟩
end
end Ci
end
section
namespace Sh
open Nt Ci
noncomputable def unk (E:List (Nat×Nat)) (F:List Nat) (c:List Nat):List Nat:=c.filter fun p=>decide (0<rk E F p)
noncomputable def BV (n:Nat) (E:List (Nat×Nat)) (F:List Nat):List (List Nat):=(As n E).map (unk E F)
theorem Ez {E:List (Nat×Nat)} {F c:List Nat} {p:Nat}:p∈unk E F c↔p∈c/\0<rk E F p:=by
 unfold unk;rw[List.mem_filter,decide_eq_true_iff]
theorem GN {n:Nat} {E:List (Nat×Nat)} {k:Nat} (hk:k<(As n E).length):((As n E)[k]).Nodup:=by
 rw[Fa];exact LA
theorem Ie {n:Nat} {E:List (Nat×Nat)} {F:List Nat} {k:Nat} (hk:k<(As n E).length):(BV n E F)[k]'(by unfold BV;rw[List.length_map];exact hk)=unk E F (As n E)[k]:=by
 unfold BV;rw[List.getElem_map]
theorem DS {n:Nat} {E:List (Nat×Nat)} {F:List Nat} (hE:InN n E) {t p:Nat} (ht:t<=(As n E).length):p∈((BV n E F).take t).flatten↔p<n/\0<rk E F p/\at' n E p<t:=by
 have hl:(BV n E F).length=(As n E).length:=by unfold BV;rw[List.length_map]
 rw[List.mem_flatten];constructor
 · rintro ⟨u,hu,hp⟩;obtain⟨k,hk,rfl⟩:=List.getElem_of_mem hu;rw[List.length_take]at hk;have a:k<(As n E).length:=by omega
   rw[List.getElem_take,Ie a,Ez]at hp
   have d:p<n:=by
    rw[Fa,CR]at hp;exact hp.1.1
   have:=(Gz hE d a).1 hp.1;exact⟨d,hp.2,by omega⟩
 · rintro ⟨h1,h2,h3⟩;have a:at' n E p<(As n E).length:=by omega
   refine⟨(BV n E F)[at' n E p]'(by omega),?_,?_⟩
   · rw[List.mem_iff_getElem];exact⟨at' n E p,by rw[List.length_take];omega,by rw[List.getElem_take]⟩
   · rw[Ie a,Ez];exact⟨(Gz hE h1 a).2 rfl,h2⟩
theorem MC {n:Nat} {L:List Lp} {F:List Nat} (hE:InN n (Am L)):∀(m t:Nat),t+m=(As n (Am L)).length->Ready L F ((BV n (Am L) F).take t).flatten ((BV n (Am L) F).drop t):=by
 have hl:(BV n (Am L) F).length=(As n (Am L)).length:=by unfold BV;rw[List.length_map]
 intro m
 induction m with
 | zero =>
   intro t ht;rw[List.drop_eq_nil_of_le (by omega)];trivial
 | succ m ih =>
   intro t ht;have a:t<(As n (Am L)).length:=by omega
   have h:t<(BV n (Am L) F).length:=by omega
   rw[List.drop_eq_getElem_cons h];refine⟨?_,?_⟩
   · rw [Ie a];refine⟨(GN a).filter _,fun p hp hd=>?_,fun p hp=>(Ez.1 hp).2,fun p hp x hx e=>?_⟩
     · have h1:=(DS hE (by omega)).1 hd;have h2:=(Gz hE h1.1 a).1 (Ez.1 hp).1;omega
     · by_cases c:rk (Am L) F x.2.1<=0
       · exact .inl c
       · have he:=Je hx;rw[e]at he;have d:x.2.1<n/\p<n:=hE _ he;have h2:=(Gz hE d.2 a).1 (Ez.1 hp).1;have h3:at' n (Am L) x.2.1<=at' n (Am L) p:=TR hE he
         by_cases c2:at' n (Am L) x.2.1=t
         · exact .inr (.inl (Ez.2 ⟨(Gz hE d.1 a).2 c2.symm,by omega⟩))
         · exact .inr (.inr ((DS hE (by omega)).2 ⟨d.1,by omega,by omega⟩))
   · have h1:=ih (t+1) (by omega);rw[List.take_add_one,List.getElem?_eq_getElem h,Option.toList_some,List.flatten_append,List.flatten_singleton]at h1;exact h1
theorem G0 {n:Nat} {L:List Lp} {F:List Nat} (hE:InN n (Am L)):Ready L F [] (BV n (Am L) F):=by
 have:=MC (F:=F) hE (As n (Am L)).length 0 (by omega)
 simpa using this
theorem Vk {n:Nat} {L:List Lp} {F:List Nat} (hE:InN n (Am L)) {p:Nat} (hp:p<n) (hr:0<rk (Am L) F p):p∈(BV n (Am L) F).flatten:=by
 have hl:(BV n (Am L) F).length=(As n (Am L)).length:=by unfold BV;rw[List.length_map]
 have h1:=(DS (F:=F) hE (t:=(As n (Am L)).length) (Nat.le_refl _)).2 ⟨hp,hr,by have:=Jg hE hp;rw[Gy];exact this⟩
 rwa [List.take_of_length_le (by omega)]at h1
theorem Ready.drop_nil {L:List Lp} {F:List Nat}:∀{us:List (List Nat)} {done:List Nat},Ready L F done us->Ready L F done (us.filter fun u=>decide (u≠[])):=by
 intro us
 induction us with
 | nil=>intro done _;trivial
 | cons u us ih =>
   intro done h;rw[List.filter_cons]
   by_cases e:u=[]
   · rw[if_neg (by simp[e])];have h2:=h.2;rw[e,List.append_nil]at h2;exact ih h2
   · rw[if_pos (by simp[e])];exact⟨h.1,ih h.2⟩
theorem EL (us:List (List Nat)):(us.filter fun u=>decide (u≠[])).flatten=us.flatten:=by
 induction us with
 | nil=>rfl
 | cons u us ih =>
   rw[List.filter_cons]
   by_cases e:u=[]
   · rw[if_neg (by simp[e]),ih,e];rfl
   · rw[if_pos (by simp[e]),List.flatten_cons,List.flatten_cons,ih]
noncomputable def GO (n:Nat) (E:List (Nat×Nat)) (F:List Nat):List (List Nat):=(BV n E F).filter fun u=>decide (u≠[])
noncomputable def KW (S:Rat->Bool) (n:Nat) (L:List Lp) (F:List Nat):Nat->Rat:=MB S L (GO n (Am L) F) fun p=>if p∈F then 1 else 0
theorem Caps.inN {n:Nat} {L:List Lp} (hL:Caps n L):InN n (Am L):=fun y hy=>by
 obtain⟨x,hx,rfl⟩:=List.mem_map.1 hy;exact⟨(hL.lt x hx).2,(hL.lt x hx).1⟩
theorem RH {n:Nat} {S:Rat->Bool} {L:List Lp} {F:List Nat} (hL:Caps n L) (hS:∀x,Fit (6000^34) x->S x=true) (a:(BV n (Am L) F).flatten.length<=16) :
 ∃D,D<=6000^16/\Inv L F (BV n (Am L) F).flatten (KW S n L F) D:=by
 have hr:=(G0 (F:=F) hL.inN).drop_nil;obtain⟨D,hD⟩:=Inv.run hL hS _ [] _ 1 (Inv.start L F) hr (by rw[EL];simpa using a);rw[EL,List.nil_append]at hD;exact⟨D,Nat.le_trans hD.dle (Nat.pow_le_pow_right (by omega) a),hD⟩
theorem RI {n:Nat} {S:Rat->Bool} {L:List Lp} {F:List Nat} (hL:Caps n L) (hS:∀x,Fit (6000^34) x->S x=true) (a:(BV n (Am L) F).flatten.length<=16):Eff n L F (KW S n L F):=by
 obtain⟨D,_,h⟩:=RH hL hS a;exact h.eff hL fun p hp hr=>Vk hL.inN hp hr
end Sh
end
section
namespace Sh
open Nt Ci
def Ae (l:List Lk):List Lp:=l.map fun x=>(x.1.toNat,x.2.1.toNat,vq (lkP x))
theorem GP {x:Rw} (h:unitsN x≠0):Ax x.1 x.2.1 x.2.2=true/\x.1=false/\val x.2.1<=val x.2.2/\6000%val x.2.2=0/\unitsN x=val x.2.1*(6000/val x.2.2):=by
 unfold unitsN at h ⊢
 split at h
 · exact absurd rfl h
 · rename_i h1
   split at h
   · exact absurd rfl h
   · rename_i h2;rw[if_neg h1,if_neg h2];refine⟨?_,?_,by omega,by omega,rfl⟩
     · cases c:Ax x.1 x.2.1 x.2.2 with
       | true=>rfl
       | false=>exact absurd (.inl c) h1
     · cases c:x.1 with
       | false=>rfl
       | true=>exact absurd (.inr (.inl c)) h1
theorem Pg {g:Bool} {n d:ByteArray} (h:Ax g n d=true):val d≠0:=by
 obtain⟨q,_,_,_,rfl⟩:=KF h
 show val (num q.den)≠0
 rw[AZ];exact q.den_nz
theorem G1 {x:Rw} (h:unitsN x≠0):6000*vq x=(unitsN x:Rat):=by
 obtain⟨h1,h2,h3,h4,h5⟩:=GP h;have hd:=Pg h1;obtain⟨g,n,d⟩:=x;simp only at h1 h2 h3 h4 h5 hd;subst h2;rw[h5];unfold vq
 show 6000*mkRat (sg false (val n)) (val d)=_
 have hk:val d*(6000/val d)=6000:=by have:=Nat.div_add_mod 6000 (val d);omega
 have hdr:(val d:Rat)≠0:=by
  intro e;exact hd (Rat.natCast_inj.1 (show ((val d:Nat):Rat)=((0:Nat):Rat) from e))
 have a:(val d:Rat)*((6000/val d:Nat):Rat)=6000:=by
  rw[<-Rat.natCast_mul,hk];rfl
 rw[Rat.mkRat_eq_div];have e1:((sg false (val n):Int):Rat)=(val n:Rat):=by unfold sg;simp[Rat.intCast_natCast]
 rw[e1,Rat.natCast_mul];generalize (val d:Rat)=D at hdr a;generalize ((6000/val d:Nat):Rat)=K at a;generalize (val n:Rat)=N;rw[<-a,Rat.div_def];have:=Rat.mul_inv_cancel D hdr;grind
theorem Ph {x:Rw} (h:unitsN x≠0):0<vq x:=by
 have h1:=G1 h;have h2:(0:Rat)<(unitsN x:Rat):=Rat.natCast_pos.2 (by omega);grind
theorem MD {p:Nat}:∀{l:List Lk},(∀x,x∈l->0<=x.1/\unitsN (lkP x)≠0)->6000*An p (fun _=>1) (Ae l)=(sumU l (p:Int):Rat):=by
 intro l
 induction l with
 | nil=>intro _;show 6000*0=((0:Nat):Rat);grind
 | cons x l ih =>
   intro h;obtain⟨h0,h1⟩:=h x List.mem_cons_self;have h2:=ih fun y hy=>h y (List.mem_cons_of_mem _ hy);have h3:=G1 h1;unfold Ae;rw[List.map_cons]
   show 6000*((if x.1.toNat=p then vq (lkP x)*1 else 0)+An p (fun _=>1) (Ae l))=_
   unfold sumU at h2 ⊢;rw[List.filter_cons]
   by_cases e:x.1=(p:Int)
   · rw[if_pos (by omega),if_pos (by simpa using e),List.map_cons,List.sum_cons,Rat.natCast_add,<-h2,<-h3];grind
   · rw[if_neg (by omega),if_neg (by simpa using e),<-h2];grind
theorem Fb {s:SR} (h:At s=true) {x:Lk} (hx:x∈s.cap):(0<=x.1/\x.1<s.ps.length)/\(0<=x.2.1/\x.2.1<s.ps.length)/\unitsN (lkP x)≠0:=by
 unfold At at h;simp only[Bool.and_eq_true,decide_eq_true_eq]at h;obtain⟨i,hi,rfl⟩:=List.getElem_of_mem hx;obtain⟨⟨a1,a2,_,a4⟩,_,_⟩:=Ep h.2.2.1 hi;exact⟨a1,a2,a4⟩
theorem Cl {s:SR} (h:At s=true):Caps s.ps.length (Ae s.cap):=by
 refine⟨fun y hy=>?_,fun y hy=>?_,fun y hy=>?_,fun p=>?_⟩
 · obtain⟨x,hx,rfl⟩:=List.mem_map.1 hy;obtain⟨h1,h2,_⟩:=Fb h hx;exact⟨by show x.1.toNat<_;omega,by show x.2.1.toNat<_;omega⟩
 · obtain⟨x,hx,rfl⟩:=List.mem_map.1 hy;exact⟨(unitsN (lkP x):Nat),by show 6000*vq (lkP x)=_;rw[G1 (Fb h hx).2.2,Rat.intCast_natCast]⟩
 · obtain⟨x,hx,rfl⟩:=List.mem_map.1 hy;exact Ph (Fb h hx).2.2
 · have h1:=MD (p:=p) (l:=s.cap) fun x hx=>⟨(Fb h hx).1.1,(Fb h hx).2.2⟩
   have hg:ED s.ps.length s.cap=true:=by
    unfold At at h;simp only[Bool.and_eq_true]at h;exact h.2.2.1
   have h2:=N9 (n:=s.ps.length) (l:=s.cap) s.cap.length (Nat.le_refl _) (fun i hi _=>Ep hg hi) (p:Int);rw[List.take_length]at h2;have h3:(sumU s.cap (p:Int):Rat)<=((6000:Nat):Rat):=Rat.natCast_le_natCast.2 h2;rw[<-h1]at h3;have h4:((6000:Nat):Rat)=6000:=rfl;rw[h4]at h3;grind
theorem CL (s:SR):Am (Ae s.cap)=Ad s:=by
 unfold Am Ae Ad;rw[List.map_map];rfl
theorem Hh {x:Rat} {d:Nat} (hd:0<d) (h:IsI ((d:Rat)*x)):x.den∣d:=by
 obtain⟨z,hz⟩:=h
 have hdr:(d:Rat)≠0:=by
  have:(0:Rat)<(d:Rat):=Rat.natCast_pos.2 hd;grind
 have e:x=mkRat z d:=by
  rw[Rat.mkRat_eq_div,<-hz,Rat.div_def];have:=Rat.mul_inv_cancel _ hdr;grind
 rw[e,Rat.den_mkRat,if_neg (by omega)];exact Nat.div_dvd_of_dvd (Nat.gcd_dvd_left _ _)
theorem Vl {x:Rat} (h1:-1<=x) (h2:x<=1):x.num.natAbs<=x.den:=by
 have a:=(Rat.le_iff _ _).1 h1;have b:=(Rat.le_iff _ _).1 h2;have e1:(-1:Rat).num=-1:=rfl;have e2:(-1:Rat).den=1:=rfl;have e3:(1:Rat).num=1:=rfl;have e4:(1:Rat).den=1:=rfl;rw[e1,e2]at a;rw[e3,e4]at b;omega
theorem KX:6000^34<L1:=by
 unfold L1;rw[DO];decide
theorem Cs {x:Rat} {B:Nat} (h:Fit B x) (hB:B<L1):ShortQ x:=by
 obtain⟨a,b,d,d1,d2,d3⟩:=h;have h1:=Nat.le_of_dvd d1 (Hh d1 d3);have h2:=Vl a b;exact⟨by omega,by omega⟩
theorem ME:∀x,Fit (6000^34) x->SQ x=true:=fun _ h=>decide_eq_true (Cs h KX)
end Sh
end
section
open Go.RowKit Go.Shelf
namespace Sh
open Nt Ci
theorem BH {P:Program} {id:Nat} {Q:Exit->Act->World->Prop} {a:Act} {w:World} {l:List Oper} (hm:P.follows .mixedOrders=true) (hB:Region.lexB .any l.toArray=true)
 (h:wpQuiet P l.toArray (fun W=>Below w.heap.size w W) (fun a'=>∀w',Below w.heap.size w w'->Q .normal a' w') l a):(Code.region id l.toArray true).wp P Q a w :=
 wp_region_quiet (C:=fun W=>Below w.heap.size w W) hm hB ((Below.refl _ w).drew) (by simpa using h)
theorem AG {P:Program} {f:FuncId} {args:Array Value} {w W:World} {v:Value} (hW:Below w.heap.size w W) (h:Calls P f args W fun e w'=>e=.returned v/\Below W.heap.size W w') :
 Calls P f args W fun e w'=>e=.returned v/\Below w.heap.size w w':=h.mono fun _ _ ⟨he,hb⟩=>⟨he,hW.trans (hb.mono hW.size)⟩
theorem TS (p q:Rat):decide (QL p q<=0)=decide (p<=q):=by
 unfold QL
 by_cases h:p<q
 · rw[if_pos h,decide_eq_true (Rat.le_of_lt h)];rfl
 · rw [if_neg h]
   by_cases e:p=q
   · have a:p<=q:=by rw[e];exact Rat.le_refl
     rw[if_pos e,decide_eq_true a];rfl
   · have a:¬p<=q:=fun c=>h (Rat.lt_of_le_of_ne c e);rw[if_neg e,decide_eq_false a];rfl
end Sh
end
section
open Go.RowKit Go.Shelf
namespace Sh
open Nt Ci
theorem Wa (w:World):(zeroValue 40).run Tryz.prog w=.ok (.agg #[.bool false,.string ⟨#[]⟩,.string ⟨#[]⟩]) w:=by kernel_rfl
def MapV (w:World) (mb n:Nat) (val:Nat->Rat):Prop :=
 ∃c f,MapK Tryz.prog 3 κi w mb c f/\c<=100000/\∀p:Nat,p<n->match f (p:Int) with | some v=>v=qv (val p) | none=>val p=0
theorem MapV.below {w w':World} {mb n:Nat} {val:Nat->Rat} (h:MapV w mb n val) (hb:Below w.heap.size w w'):MapV w' mb n val:=by
 obtain⟨c,f,h1,h2,h3⟩:=h;exact⟨c,f,h1.below hb,h2,h3⟩
theorem MapV.lt {w:World} {mb n:Nat} {val:Nat->Rat} (h:MapV w mb n val):mb<w.heap.size:=by
 obtain⟨c,f,h1,_⟩:=h;exact h1.lt
structure VM (w:World) (vb mb n:Nat) (val:Nat->Rat):Prop where
 x:Bk w vb 69 [.map (some mb)]
 m:MapV w mb n val
theorem VM.below {w w':World} {vb mb n:Nat} {val:Nat->Rat} (h:VM w vb mb n val) (hb:Below w.heap.size w w'):VM w' vb mb n val:=⟨h.x.below hb,h.m.below hb⟩
theorem Jh (n:Nat) (val:Nat->Rat) (vb mb p:Nat) (hp:p<n) (hn:n<=1000) (w:World) (hE:Env w) (hV:VM w vb mb n val) :
 Calls Tryz.prog 54 #[.int .i64 (p:Int),.pointer (some ⟨vb,0,none⟩)] w fun e w'=>e=.returned (qv (val p))/\Below w.heap.size w w':=by
 have ah:Hid (Below w.heap.size w (w.alloc (.cells #[.bool false,.string ⟨#[]⟩,.string ⟨#[]⟩] 40))):=((Below.refl _ w).alloc (Nat.le_refl _) _);have ak:Hid (Bk (w.alloc (.cells #[.bool false,.string ⟨#[]⟩,.string ⟨#[]⟩] 40)) (w.heap.size) 40 [.bool false,.string ⟨#[]⟩,.string ⟨#[]⟩]):=by have h:=Bk.new w 40 [.bool false,.string ⟨#[]⟩,.string ⟨#[]⟩]; exact h
 have an:=zh (hV.below ah.out);obtain⟨c,f,hM,_,al⟩:=an.out.m;have aa:=hM.look_ok F3 Tryz.underlying69 (Wa _) (E5 Tryz.underlying3 (a:=(p:Int)) (by omega) (by omega));have hx:=an.out.x;have x0:=hx.c0;have x9:=hx.lt;have ad:=al p hp;replace hE:=zh hE;clear al hM an hV hx
 cases ai:f (p:Int) with
 | some u =>
   rw[ai]at aa ad;replace ad:u=qv (val p):=ad;obtain⟨g,n0,d,hq⟩:=GJ (val p);rw[hq]at ad;subst ad;replace aa:(Instr.lookup 69 (.map (some mb)) (.int .i64 (p:Int)) true).run Tryz.prog (w.alloc (.cells #[.bool false,.string ⟨#[]⟩,.string ⟨#[]⟩] 40))=.ok (.tuple #[.agg #[.bool g,.string n0,.string d],.bool true]) (w.alloc (.cells #[.bool false,.string ⟨#[]⟩,.string ⟨#[]⟩] 40)):=aa;replace ai:=zh ai;have aj:Hid (Below w.heap.size w ((w.alloc (.cells #[.bool false,.string ⟨#[]⟩,.string ⟨#[]⟩] 40)).alloc (.cells #[.bool g,.string n0,.string d] 40))):=ah.out.alloc ah.out.size _;have ae:=zh (ak.out.alloc (.cells #[.bool g,.string n0,.string d] 40));clear ah ak;have aq:Hid (Bk ((w.alloc (.cells #[.bool false,.string ⟨#[]⟩,.string ⟨#[]⟩] 40)).alloc (.cells #[.bool g,.string n0,.string d] 40)) (w.alloc (.cells #[.bool false,.string ⟨#[]⟩,.string ⟨#[]⟩] 40)).heap.size 40 [.bool g,.string n0,.string d]):=Bk.new _ _ _;have r0:=ae.out.c0;have r1:=ae.out.c1;have r2:=ae.out.c2;have r9:=ae.out.lt;have ar:=ae.out.frozen 0;have au:=ae.out.frozen 1;have av:=ae.out.frozen 2;go_enter Tryz.func54,Tryz.ntmps54;have am:Hid (Below w.heap.size w ((w.alloc (.cells #[.bool g,.string n0,.string d] 40)).alloc (.cells #[.bool g,.string n0,.string d] 40))):=((Below.refl _ w).alloc (Nat.le_refl _) _).alloc (by simp) _;have af:Hid (Bk ((w.alloc (.cells #[.bool g,.string n0,.string d] 40)).alloc (.cells #[.bool g,.string n0,.string d] 40)) w.heap.size 40 [.bool g,.string n0,.string d]):=(Bk.new w _ _).alloc _;go_wp2
   (try simp only[Exit.inBlock,Exit.then])
   have s0:=af.out.c0;have s1:=af.out.c1;have s2:=af.out.c2;have s9:=af.out.lt;refine bodyPost_ret (v:=.agg #[.bool g,.string n0,.string d]) (by simp[results,Tryz.results54,go_sem,s0,s1,s2]) rfl ⟨by rw[hq],am.out⟩
 | none =>
   rw[ai]at aa ad;replace ad:val p=0:=ad;obtain⟨g,n0,d,hq⟩:=GJ (0:Rat);rw[ad];replace aa:(Instr.lookup 69 (.map (some mb)) (.int .i64 (p:Int)) true).run Tryz.prog (w.alloc (.cells #[.bool false,.string ⟨#[]⟩,.string ⟨#[]⟩] 40))=.ok (.tuple #[.agg #[.bool false,.string ⟨#[]⟩,.string ⟨#[]⟩],.bool false]) (w.alloc (.cells #[.bool false,.string ⟨#[]⟩,.string ⟨#[]⟩] 40)):=aa;replace ai:=zh ai;replace ad:=zh ad;have aj:Hid (Below w.heap.size w ((w.alloc (.cells #[.bool false,.string ⟨#[]⟩,.string ⟨#[]⟩] 40)).alloc (.cells #[.bool false,.string ⟨#[]⟩,.string ⟨#[]⟩] 40))):=ah.out.alloc ah.out.size _;have ae:=zh (ak.out.alloc (.cells #[.bool false,.string ⟨#[]⟩,.string ⟨#[]⟩] 40));clear ah ak;have aq:Hid (Bk ((w.alloc (.cells #[.bool false,.string ⟨#[]⟩,.string ⟨#[]⟩] 40)).alloc (.cells #[.bool false,.string ⟨#[]⟩,.string ⟨#[]⟩] 40)) (w.alloc (.cells #[.bool false,.string ⟨#[]⟩,.string ⟨#[]⟩] 40)).heap.size 40 [.bool false,.string ⟨#[]⟩,.string ⟨#[]⟩]):=Bk.new _ _ _;have kn:Hid (Calls Tryz.prog 53 #[.int .i64 0] ((w.alloc (.cells #[.bool false,.string ⟨#[]⟩,.string ⟨#[]⟩] 40)).alloc (.cells #[.bool false,.string ⟨#[]⟩,.string ⟨#[]⟩] 40)) fun e w'=>e=.returned (.agg #[.bool g,.string n0,.string d])/\Below (((w.alloc (.cells #[.bool false,.string ⟨#[]⟩,.string ⟨#[]⟩] 40)).alloc (.cells #[.bool false,.string ⟨#[]⟩,.string ⟨#[]⟩] 40))).heap.size ((w.alloc (.cells #[.bool false,.string ⟨#[]⟩,.string ⟨#[]⟩] 40)).alloc (.cells #[.bool false,.string ⟨#[]⟩,.string ⟨#[]⟩] 40)) w'):=by have h:=Jd 0 (by omega) ((w.alloc (.cells #[.bool false,.string ⟨#[]⟩,.string ⟨#[]⟩] 40)).alloc (.cells #[.bool false,.string ⟨#[]⟩,.string ⟨#[]⟩] 40)) (hE.out.below aj.out);rw[show ((0:Int):Rat)=0 from rfl,hq]at h;exact h
   go_enter Tryz.func54,Tryz.ntmps54
   go_wp2_with fail
   refine kn.out.mono ?_;rintro e w4 ⟨rfl,hb⟩;have ao:=zh (aj.out.trans (hb.mono aj.out.size));have ag:=zh (ae.out.below hb);clear hb aj ae kn;have r0:=ag.out.c0;have r1:=ag.out.c1;have r2:=ag.out.c2;have r9:=ag.out.lt;have ar:=ag.out.frozen 0;have au:=ag.out.frozen 1;have av:=ag.out.frozen 2;have am:Hid (Below w.heap.size w (((w4.setCell ⟨w.heap.size,0,none⟩ (.bool g)).setCell ⟨w.heap.size,1,none⟩ (.string n0)).setCell ⟨w.heap.size,2,none⟩ (.string d))):=(((ao.out.setCell (p:=⟨w.heap.size,0,none⟩) (Nat.le_refl _) _).setCell (p:=⟨w.heap.size,1,none⟩) (Nat.le_refl _) _).setCell (p:=⟨w.heap.size,2,none⟩) (Nat.le_refl _) _);have af:Hid (Bk (((w4.setCell ⟨w.heap.size,0,none⟩ (.bool g)).setCell ⟨w.heap.size,1,none⟩ (.string n0)).setCell ⟨w.heap.size,2,none⟩ (.string d)) (w.heap.size) 40 [.bool g,.string n0,.string d]):=(Bk.set (Bk.set (Bk.set ag.out 0 (.bool g)) 1 (.string n0)) 2 (.string d));go_wp2
   (try simp only[Exit.inBlock,Exit.then])
   have s0:=af.out.c0;have s1:=af.out.c1;have s2:=af.out.c2;have s9:=af.out.lt;refine bodyPost_ret (v:=.agg #[.bool g,.string n0,.string d]) (by simp[results,Tryz.results54,go_sem,s0,s1,s2]) rfl ⟨by rw[hq],am.out⟩
end Sh
end
section
open Go.RowKit Go.Shelf
namespace Sh
open Nt Ci
theorem NM {a b:Int} (h:a=b):Ending.returned (.int .i64 a)=.returned (.int .i64 b):=by rw[h]
def FV (l:List Int) (x:Int):Int:=if x∈l then (l.idxOf x:Int) else -1
theorem UC {l:List Int} {x:Int} {k:Nat} (hk:k<l.length) (h:∀j (hj:j<l.length),j<k->l[j]≠x) (e:l[k]=x):FV l x=(k:Int):=by
 have hm:x∈l:=by rw[<-e];exact List.getElem_mem hk
 unfold FV;rw[if_pos hm];have h1:l.idxOf x<l.length:=List.idxOf_lt_length_of_mem hm;have h2:l[l.idxOf x]=x:=List.getElem_idxOf h1
 by_cases c:l.idxOf x<k
 · exact absurd h2 (h _ h1 c)
 · by_cases c2:k<l.idxOf x
   · exact absurd e (by
      have:=List.not_of_lt_findIdx (p:=fun y=>y==x) (xs:=l) (i:=k) (by simpa [List.idxOf] using c2)
      simpa using this)
   · omega
theorem UD {l:List Int} {x:Int} (h:∀j (hj:j<l.length),l[j]≠x):FV l x=-1:=by
 unfold FV;rw[if_neg];intro hm;obtain⟨j,hj,e⟩:=List.getElem_of_mem hm;exact h j hj e
theorem Vm {l:List Int} {x:Int}:decide (0<=FV l x)=decide (x∈l):=by
 unfold FV
 by_cases h:x∈l
 · rw[if_pos h,decide_eq_true h,decide_eq_true (by omega)]
 · rw[if_neg h,decide_eq_false h];rfl
theorem Ji (A:Option Addr) (ca:Nat) (l:List Int) (x:Int) (w:World) (hA:InInt w A l) (hl:l.length<=140737488355328) :
 Calls Tryz.prog 89 #[.slice A l.length ca,.int .i64 x] w fun e w'=>e=.returned (.int .i64 (FV l x))/\w'=w:=by
 replace hA:=zh hA;have d:=zh (fun(k:Nat) (hk:k<l.length) h e=>UC (l:=l) (x:=x) hk h e);have aa:=zh (fun h=>UD (l:=l) (x:=x) h);go_enter Tryz.func89,Tryz.ntmps89;go_wp2
 go_loopw [8] (fun ix wr=>∃(k:Nat),k<=l.length/\ix=.int .i64 (k:Int)/\wr=w/\Hid (∀j (hj:j<l.length),j<k->l[j]≠x)) (fun ix _=>l.length-(intOf ix).toNat)
 case atStart=>exact⟨0,Nat.zero_le _,rfl,rfl,fun j _ h=>absurd h (Nat.not_lt_zero _)⟩
 case round =>
  obtain⟨k,hk,rfl,rfl,hN⟩:=hrel
  by_cases hlt:k<l.length
  · obtain ⟨b,o,rfl,ae,hc⟩:=hA.out (by omega);have e1:=hc k hlt;have hy:=zh (d.out k hlt hN.out)
    have hn:Hid (l[k]≠x->∀j (hj:j<l.length),j<k+1->l[j]≠x):=fun h j hj h2=>by
     by_cases c:j=k
     · subst c;exact h
     · exact hN.out j hj (by omega)
    obtain⟨y,a⟩:∃y,y=l[k]:=⟨_,rfl⟩;rw[<-a]at e1 hy hn;replace a:=zh a;have j0:(0:Int)<=(k:Int):=by omega
    have j1:(k:Int)<(l.length:Int):=by omega
    clear hc hN
    by_cases hxy:x=y
    · have m1:(x==y)=true:=by rw[beq_iff_eq];exact hxy
      have hr:=zh (hy.out hxy.symm);replace hxy:=zh hxy;clear hn hy;go_wp2;go_ret;exact⟨NM hr.out.symm,rfl⟩
    · have m1:(x==y)=false:=by rw[beq_eq_false_iff_ne];exact hxy
      have ad:=zh (hn.out fun c=>hxy c.symm);replace hxy:=zh hxy;clear hn hy;go_wp2;exact⟨⟨k+1,by omega,by go_num,by first | rfl | trivial,ad⟩,by simp only[intOf];omega⟩
  · obtain rfl:k=l.length:=by omega
    have hr:Hid (FV l x=-1):=aa.out fun j hj=>hN.out j hj hj;go_wp2;go_ret;exact⟨NM hr.out.symm,rfl⟩
end Sh
end
section
open Go.RowKit Go.Shelf
namespace Ci
def BW (l:List Nat):List Value:=l.map fun(q:Nat)=>.int .i64 (q:Int)
theorem F9 (l:List Nat) (q:Nat):BW (l++[q])=BW l++[.int .i64 (q:Int)]:=by simp[BW]
def TT (u v:Value):Prop:=∀b,u.ownBlock=some b->v.ownBlock≠some b
structure Gr (W:World) (B R n:Nat) (v:Nat->Value) (adj:Nat->List Nat):Prop where
 lt:R<W.heap.size
 hd:∀i,i<n->W.cell? ⟨R,i,none⟩=some (v i)
 fr:∀i,W.frozen? ⟨R,i,none⟩=false
 rows:∀i,i<n->W.ownsRow B 3 1 (v i) (adj i).length (BW (adj i))
 apart:∀i j,i<n->j<n->i≠j->TT (v i) (v j)
 ne:∀i,i<n->(v i).ownBlock≠some R
 lowR:B<=R
section
variable {W W':World} {B R n i:Nat} {v:Nat->Value} {adj:Nat->List Nat}
theorem AR {base:Nat} {e:TypeId} {size m:Nat} {u:Value} {xs:List Value} (h:W.ownsRow base e size u m xs) (hb:Below W.heap.size W W'):W'.ownsRow base e size u m xs :=
 h.kept (row:=none) ⟨hb.os,hb.tape,hb.output,hb.size,fun k hk _=>hb.block k hk⟩ (by
  cases hu:u.ownBlock with
  | none=>exact .inl rfl
  | some b=>exact .inr (by simp))
theorem Gr.below (h:Gr W B R n v adj) (hb:Below W.heap.size W W'):Gr W' B R n v adj :=
 ⟨Nat.lt_of_lt_of_le h.lt hb.size,fun i hi=>(hb.cell (p:=⟨R,i,none⟩) h.lt).trans (h.hd i hi),fun i=>(hb.frozen (p:=⟨R,i,none⟩) h.lt).trans (h.fr i),fun i hi=>AR (h.rows i hi) hb,h.apart,h.ne,h.lowR⟩
theorem Gr.alloc (h:Gr W B R n v adj) (o:Obj):Gr (W.alloc o) B R n v adj:=h.below ((Below.refl _ W).alloc (Nat.le_refl _) o)
theorem Gr.drew (h:Gr W B R n v adj):Gr W.drew B R n v adj:=h.below (Below.refl _ W).drew
theorem Gr.mono {B':Nat} (h:Gr W B R n v adj) (hb:B'<=B):Gr W B' R n v adj :=
 ⟨h.lt,h.hd,h.fr,fun i hi=>by
   obtain⟨h1,h2⟩:=h.rows i hi;refine⟨h1,?_⟩
   rcases h2 with h2 | ⟨g,cap,cur,hv,hg,hh⟩
   · exact .inl h2
   · exact .inr ⟨g,cap,cur,hv,Nat.le_trans hb hg,hh⟩,h.apart,h.ne,Nat.le_trans hb h.lowR⟩
theorem Eg {base:Nat} {e:TypeId} {u:Value} {l:List Nat} (h:W.ownsRow base e 1 u l.length (BW l)) :
 (u=.slice none 0 0/\l=[])∨∃g cap,u=.slice (some ⟨g,0,none⟩) l.length cap/\base<=g/\g<W.heap.size/\(∀j,W.frozen? ⟨g,j,none⟩=false)/\∀j (hj:j<l.length),W.cell? ⟨g,j,none⟩=some (.int .i64 (l[j]:Int)):=by
 rcases h.2 with⟨rfl,h0⟩ | ⟨g,cap,cur,rfl,hb,hg,_⟩
 · exact .inl ⟨rfl,List.length_eq_zero_iff.1 h0⟩
 · refine .inr ⟨g,cap,rfl,hb,(Array.getElem?_eq_some_iff.1 hg).1,fun j=>by simp[World.frozen?,hg],fun j hj=>?_⟩;have hc:=h.cells (g:=g) (by simp[Value.ownBlock]) j (.int .i64 (l[j]:Int)) (by simp[BW,hj]);have a:∀o,(⟨g,0,none⟩:Addr).add o=⟨g,o,none⟩:=fun o=>by unfold Addr.add;split<;>simp_all
   rwa [a]at hc
theorem Gr.start (w:World) {B:Nat} (hB:B<=w.heap.size) (n:Nat) (t:TypeId):Gr (w.alloc (.cells (madeCells #[.slice none 0 0] n) t)) B w.heap.size n (fun _=>.slice none 0 0) fun _=>[]:=by
 have h:=heap_alloc_new w (.cells (madeCells #[(.slice none 0 0:Value)] n) t);refine⟨by simp,fun x hx=>?_,fun x=>by simp only[World.frozen?,h];simp,fun _ _=>World.ownsRow_nil _ _ _ _,fun _ _ _ _ _ b hb=>(by cases hb),fun _ _ hb=>(by cases hb),hB⟩;simp only[World.cell?,h];simp[madeCells,hx];rw[Nat.mod_one];rfl
def E8 (adj:Nat->List Nat) (x q:Nat):Nat->List Nat:=fun i=>if i=x then adj i++[q] else adj i
theorem Gr.step (h:Gr W B R n v adj) {x q:Nat} (hx:x<n) {u:Value} (hg:W.grownBy W' (v x).ownBlock) (ho:W'.ownsRow B 3 1 u ((adj x).length+1) (BW (adj x)++[.int .i64 (q:Int)])) (hn:u.ownBlock=(v x).ownBlock∨u.ownBlock=some W.heap.size) :
 Gr (W'.setCell ⟨R,x,none⟩ u) B R n (fun i=>if i=x then u else v i) (E8 adj x q):=by
 have ag:some R≠(v x).ownBlock:=fun e=>h.ne x hx e.symm;have ad:W'.heap[R]? = W.heap[R]?:=hg.block R h.lt ag;have d:∀i,W'.cell? ⟨R,i,none⟩=W.cell? ⟨R,i,none⟩:=fun i=>World.cell?_of_block (a:=⟨R,i,none⟩) ad;have ah:∀i,W'.frozen? ⟨R,i,none⟩=W.frozen? ⟨R,i,none⟩:=fun i=>World.frozen?_of_block (a:=⟨R,i,none⟩) ad
 have af:u.ownBlock≠some R:=fun e=>by
  rcases hn with hn | hn
  · exact h.ne x hx (by rw[<-hn,e])
  · rw[e]at hn;have:=h.lt;simp only[Option.some.injEq]at hn;omega
 have ae:∀a b:Nat,a≠b->(⟨R,a,none⟩:Addr)≠⟨R,b,none⟩:=fun a b e1 e2=>by injection e2 with _ e3;exact e1 e3
 have far:∀{m:Nat} {z:Value} {xs:List Value},W'.ownsRow B 3 1 z m xs->z.ownBlock≠some R->(W'.setCell ⟨R,x,none⟩ u).ownsRow B 3 1 z m xs:=fun h hz =>
  h.kept (row:=some R) ⟨rfl,rfl,rfl,by simp,fun k _ hk=>Below.heap_setCell _ _ _ _ (fun e=>hk (by rw[e]))⟩ (.inr hz)
 have aa:∀i,i<n->i≠x->TT (v i) u:=fun i hi ai b hb e=>by
  rcases hn with hn | hn
  · exact h.apart i x hi hx ai b hb (by rw[<-hn,e])
  · have:=((h.rows i hi).lt b hb).2;rw[e]at hn;simp only[Option.some.injEq]at hn;omega
 refine⟨by have:=hg.size;have:=h.lt;simp;omega,fun i hi=>?_,fun i=>by simpa [ah] using h.fr i,fun i hi=>?_,fun i j hi hj e=>?_,fun i hi=>?_,h.lowR⟩
 · by_cases e:i=x
   · subst e;rw[if_pos rfl];exact World.cell?_setCell_same _ _ _ ((d i).trans (h.hd i hi))
   · rw[if_neg e,World.cell?_setCell_other _ _ _ _ (by first | exact ae _ _ e | exact ae _ _ fun c=>e c.symm),d];exact h.hd i hi
 · by_cases e:i=x
   · subst e;rw[if_pos rfl];have:E8 adj i q i=adj i++[q]:=if_pos rfl;rw[this,List.length_append,F9];exact far ho af
   · rw[if_neg e];have:E8 adj x q i=adj i:=if_neg e;rw[this];refine far ((h.rows i hi).kept hg ?_) (h.ne i hi)
     cases hv:(v i).ownBlock with
     | none=>exact .inl rfl
     | some b=>exact .inr fun c=>h.apart i x hi hx e b hv c.symm
 · by_cases e1:i=x
   · have e2:j≠x:=fun c=>e (by rw[e1,c]);rw[if_pos e1,if_neg e2];exact fun b hb hc=>aa j hj e2 b hc hb
   · rw [if_neg e1]
     by_cases e2:j=x
     · rw[if_pos e2];exact aa i hi e1
     · rw[if_neg e2];exact h.apart i j hi hj e
 · by_cases e:i=x
   · rw[if_pos e];exact af
   · rw[if_neg e];exact h.ne i hi
theorem Gr.congr {a':Nat->List Nat} (h:Gr W B R n v adj) (e:∀i,i<n->adj i=a' i):Gr W B R n v a' :=
 ⟨h.lt,h.hd,h.fr,fun i hi=>by rw[<-e i hi];exact h.rows i hi,h.apart,h.ne,h.lowR⟩
end
end Ci
end
section
open Go.RowKit Go.Shelf
namespace Ci
section
variable {w w':World} {base:Nat} {e:TypeId} {size:Nat} {u v v':Value} {n:Nat} {xs:List Value}
theorem BN {P:Program} (t ty e:TypeId) (i:TypeInfo) (z:Value) (size bytes:Nat) (ht:P.underlying t=some (.slice e)) (hi:P.info? e=some i) (hz:i.zero=some z)
 (af:i.size=size) (aj:i.bytes=bytes) (v:Value) (n:Nat) (xs:List Value) (aa:w.ownsRow base e size v n xs)
 (a:Addr) (m c:Nat) (news:List Value) (hl:news.length=m*size) (d:∀j u,news[j]? = some u->w.cell? (a.add j)=some u) (h1:∀u∈news,u.oneCell'=true) (hm:0<m)
 (ai:n+m<=maxLen) (h:(n+m)*bytes<=140737488355328) {v':Value} {w':World} (hr:(Builtin.append_ #[t,t] ty #[v,.slice (some a) m c]).run P w=.ok v' w') :
 v'.ownBlock=v.ownBlock∨v'.ownBlock=some w.heap.size:=by
 subst af;subst aj;have ah:n+m<=9223372036854775807:=by simp only[maxLen]at ai;omega
 rcases aa.2 with⟨rfl,rfl⟩ | ⟨g,cap,cur,rfl,_,hg,_,al,ak,_⟩
 · have ad:=run_append_nil (P:=P) w t ty e i z ht hi hz a m c news hl d (by omega) (by omega) (by have hb:=h;simp only[Nat.zero_add]at hb;omega);rw[ad]at hr;simp only[Result.ok.injEq]at hr;rw[<-hr.1];exact .inr rfl
 · by_cases hroom:n+m<=cap
   · have ag:n*i.size+news.length<=cur.size:=by rw[hl,ak,<-Nat.add_mul];exact Nat.mul_le_mul_right _ hroom
     have ad:=run_append_room (P:=P) w t ty e i ht hi g n cap cur hg a m c news hl d h1 hroom ag;rw[ad]at hr;simp only[Result.ok.injEq]at hr;rw[<-hr.1];exact .inl rfl
   · have ae:∀j u,xs[j]? = some u->w.cell? ((⟨g,0,none⟩:Addr).add j)=some u:=aa.cells (g:=g) rfl;have ad:=run_append_grow (P:=P) w t ty e i z ht hi hz ⟨g,0,none⟩ n cap xs aa.1 ae a m c news hl d (by omega) (by omega) (growslice_fits (by omega) h);rw[ad]at hr;simp only[Result.ok.injEq]at hr;rw[<-hr.1];exact .inr rfl
end
theorem wpList_append_new {P:Program} (w:World) {ops:Array Oper} {rest:List Oper} {o:Oper} {a:Act} {Q:Exit->Act->World->Prop} (aj:o.guard=none) (s x:Operand) (t:TypeId)
 (ho:o.op=.call { callee:=.builtin .append,args:=#[s,x],argTypes:=#[t,t] })
 (base:Nat) (e:TypeId) (i:TypeInfo) (z:Value) (size bytes:Nat) (ht:P.underlying t=some (.slice e)) (hi:P.info? e=some i) (hz:i.zero=some z)
 (ae:i.size=size) (ai:i.bytes=bytes) (al:z.cells.size=size) (ak:0<size)
 (v:Value) (n:Nat) (xs:List Value) (hs:a.eval s=v) (af:w.ownsRow base e size v n xs)
 (ad:Addr) (m c:Nat) (news:List Value) (hx:a.eval x=.slice (some ad) m c) (hl:news.length=m*size) (aa:∀j u,news[j]? = some u->w.cell? (ad.add j)=some u) (h1:∀u∈news,u.oneCell'=true) (hm:0<m)
 (ah:n+m<=maxLen) (d:(n+m)*bytes<=140737488355328) (ag:base<=w.heap.size)
 (h:∀v' w',w'.ownsRow base e size v' (n+m) (xs++news)->w.grownBy w' v.ownBlock->(v'.ownBlock=v.ownBlock∨v'.ownBlock=some w.heap.size)->wpList P ops Q rest (a.put o.dst v') w'):wpList P ops Q (o::rest) a w :=
 wpList_plain aj fun _ hK=>by
  obtain⟨v',w',hr,h2,h3,_⟩:=run_append_own (P:=P) w base t o.type e i z size bytes ht hi hz ae ai al ak v n xs af ad m c news hl aa h1 ah d ag;have h5:=BN (P:=P) t o.type e i z size bytes ht hi hz ae ai v n xs af ad m c news hl aa h1 hm ah d hr;unfold Oper.wp execOp;simp only[ho,resolve,invoke,builtin,Sem.run_bind,Sem.run_pure,Result.andThen_ok,List.map_toArray,List.map_cons,List.map_nil,hs,hx,hr];exact hK _ _ (h v' w' h2 h3 h5)
theorem Bg (v:Value) (h:v.oneCell'=true):∀u∈[v],u.oneCell'=true:=fun u hu=>by rw[List.mem_singleton.1 hu];exact h
theorem Cx (w:World) (v:Value) (t:TypeId):∀j u,[v][j]? = some u->(w.alloc (.cells #[v] t)).cell? (Addr.add ⟨w.heap.size,0,none⟩ j)=some u:=by
 intro j u hj
 match j,hj with
 | 0,hj=>simp at hj;subst hj;simp[Addr.add]
 | j+1,hj=>simp at hj
theorem Bb {P:Program} (w:World) {o:Oper} {a:Act} {K:Act->World->Prop} {Q:Exit->Act->World->Prop} (s x:Operand) (t:TypeId)
 (ho:o.op=.call { callee:=.builtin .append,args:=#[s,x],argTypes:=#[t,t] })
 (base:Nat) (e:TypeId) (i:TypeInfo) (z:Value) (size bytes:Nat) (ht:P.underlying t=some (.slice e)) (hi:P.info? e=some i) (hz:i.zero=some z)
 (ae:i.size=size) (ai:i.bytes=bytes) (ak:z.cells.size=size) (aj:0<size)
 (v:Value) (n:Nat) (xs:List Value) (hs:a.eval s=v) (af:w.ownsRow base e size v n xs)
 (ad:Addr) (m c:Nat) (news:List Value) (hx:a.eval x=.slice (some ad) m c) (hl:news.length=m*size) (aa:∀j u,news[j]? = some u->w.cell? (ad.add j)=some u) (h1:∀u∈news,u.oneCell'=true) (hm:0<m)
 (ah:n+m<=maxLen) (d:(n+m)*bytes<=140737488355328) (ag:base<=w.heap.size)
 (h:∀v' w',w'.ownsRow base e size v' (n+m) (xs++news)->w.grownBy w' v.ownBlock->(v'.ownBlock=v.ownBlock∨v'.ownBlock=some w.heap.size)->K (a.put o.dst v') w'):o.wp P a w K Q:=by
 obtain⟨v',w',hr,h2,h3,_⟩:=run_append_own (P:=P) w base t o.type e i z size bytes ht hi hz ae ai ak aj v n xs af ad m c news hl aa h1 ah d ag;have h5:=BN (P:=P) t o.type e i z size bytes ht hi hz ae ai v n xs af ad m c news hl aa h1 hm ah d hr;unfold Oper.wp execOp;simp only[ho,resolve,invoke,builtin,Sem.run_bind,Sem.run_pure,Result.andThen_ok,List.map_toArray,List.map_cons,List.map_nil,hs,hx,hr];exact h v' w' h2 h3 h5
end Ci
end
section
open Go.RowKit Go.Shelf
namespace Ci
open Nt
theorem RJ:(Tryz.prog.info? 26).map (fun i=>(i.zero,i.size,i.bytes))=some (some (.slice none 0 0),1,24):=by kernel_rfl
theorem If:(Tryz.prog.info? 3).map (fun i=>(i.zero,i.size,i.bytes))=some (some (.int .i64 0),1,8):=by kernel_rfl
def Cz (E:List (Nat×Nat)) (k p:Nat):List Nat:=((E.take k).filter fun x=>decide (x.1=p)).map (·.2)
theorem Pi {E:List (Nat×Nat)} {k:Nat} (h:k<E.length) (p:Nat):Cz E (k+1) p=E8 (Cz E k) E[k].1 E[k].2 p:=by
 unfold Cz E8;rw[List.take_succ_eq_append_getElem h,List.filter_append,List.map_append]
 by_cases e:E[k].1=p
 · rw[if_pos e.symm,List.filter_cons,if_pos (by simpa using e)];rfl
 · rw[if_neg (fun c=>e c.symm),List.filter_cons,if_neg (by simpa using e)];simp
theorem KY {E:List (Nat×Nat)} {p q:Nat}:q∈Cz E E.length p↔(p,q)∈E:=by
 unfold Cz;rw[List.take_length];simp only[List.mem_map,List.mem_filter,decide_eq_true_eq];constructor
 · rintro⟨x,⟨h1,rfl⟩,rfl⟩;exact h1
 · exact fun h=>⟨(p,q),⟨h,rfl⟩,rfl⟩
theorem RK (s:SR) (Ap Ac Av:Option Addr) (cp cc cv:Nat) (w:World) (hs:StIn w s Ap Ac Av) (hn:s.ps.length<=100) (a0:s.cap.length<=300) (aK:∀x,x∈s.cap->(0<=x.1/\x.1<s.ps.length)/\(0<=x.2.1/\x.2.1<s.ps.length)) :
 Calls Tryz.prog 81 #[.agg #[.slice Ap s.ps.length cp,.slice Ac s.cap.length cc,.slice Av s.vot.length cv]] w fun e w'=>(∃R v,e=.returned (.slice (some ⟨R,0,none⟩) s.ps.length s.ps.length)/\Gr w' w.heap.size R s.ps.length v (Cz (Ad s) (Ad s).length))/\Below w.heap.size w w':=by
 have aZ:=run_make_row' (P:=Tryz.prog) 99 26 (.slice none 0 0) 24 Tryz.underlying99 RJ rfl .i64 .i64 s.ps.length (by omega) (by omega);have au:Hid (Bk (w.alloc (.cells #[.slice Ap s.ps.length cp,.slice Ac s.cap.length cc,.slice Av s.vot.length cv] 25)) w.heap.size 25 (SC s Ap Ac Av cp cc cv)):=Bk.new w _ _;have aF:Hid (Below w.heap.size w (w.alloc (.cells #[.slice Ap s.ps.length cp,.slice Ac s.cap.length cc,.slice Av s.vot.length cv] 25))):=(Below.refl _ w).alloc (Nat.le_refl _) _;have u0:=au.out.c0;have u1:=au.out.c1;have u9:=au.out.lt
 have aN:Hid (Gr ((w.alloc (.cells #[.slice Ap s.ps.length cp,.slice Ac s.cap.length cc,.slice Av s.vot.length cv] 25)).alloc (.cells (madeCells #[(.slice none 0 0:Value)] s.ps.length) 26)) w.heap.size (w.heap.size+1) s.ps.length (fun _=>.slice none 0 0) (Cz (Ad s) 0)):=by
  have h:=Gr.start (w.alloc (.cells #[.slice Ap s.ps.length cp,.slice Ac s.cap.length cc,.slice Av s.vot.length cv] 25)) (B:=w.heap.size) (by simp) s.ps.length 26;rw[World.size_alloc]at h;exact h.congr fun i _=>rfl
 have aL:Hid (Below w.heap.size w ((w.alloc (.cells #[.slice Ap s.ps.length cp,.slice Ac s.cap.length cc,.slice Av s.vot.length cv] 25)).alloc (.cells (madeCells #[(.slice none 0 0:Value)] s.ps.length) 26))):=aF.out.alloc aF.out.size _;have aJ:=zh (au.out.alloc (.cells (madeCells #[(.slice none 0 0:Value)] s.ps.length) 26));have v1:=aJ.out.c1;have v9:=aJ.out.lt;obtain⟨i0,aA,aV⟩:=Option.map_eq_some_iff.1 If;simp only[Prod.mk.injEq]at aV;obtain⟨aC,aD,aE⟩:=aV;replace aA:=zh aA;replace aC:=zh aC;replace aD:=zh aD;replace aE:=zh aE;have az:Hid ((Ad s).length=s.cap.length):=by unfold Hid Ad;simp
 have aX:Hid (∀k p,(Cz (Ad s) k p).length<=300):=fun k p=>by
  unfold Cz;rw[List.length_map];have h1:=List.length_filter_le (fun x:Nat×Nat=>decide (x.1=p)) ((Ad s).take k);have h2:((Ad s).take k).length<=(Ad s).length:=List.length_take_le' _ _;have:=az.out;omega
 replace hs:=zh hs;replace aK:=zh aK;go_enter Tryz.func81,Tryz.ntmps81;go_wp2;clear aZ u0 u1 u9 v1 v9
 go_loopw [13] (fun i wr=>∃(k:Nat) (v:Nat->Value),k<=s.cap.length/\i=.int .i64 (k:Int)/\Hid (Below w.heap.size w wr)/\Hid (Gr wr w.heap.size (w.heap.size+1) s.ps.length v (Cz (Ad s) k))) (fun i _=>s.cap.length-(intOf i).toNat)
 case atStart=>exact⟨0,_,Nat.zero_le _,rfl,aL,aN⟩
 case round =>
  obtain⟨k,v,hk,rfl,hB,hG⟩:=hrel;clear au aF aN aL aJ
  by_cases hlt:k<s.cap.length
  · obtain ⟨b,o,rfl,aY,aQ⟩:=(hs.out.below hB.out).cap (by omega);obtain⟨e1,e2,e3,e4,e5⟩:=aQ k hlt;have aR:=aK.out s.cap[k] (List.getElem_mem hlt)
    have an:Hid (∀p,Cz (Ad s) (k+1) p=E8 (Cz (Ad s) k) s.cap[k].2.1.toNat s.cap[k].1.toNat p):=fun p=>by
     have h:=Pi (E:=Ad s) (k:=k) (by rw[az.out];exact hlt) p;have h2:(Ad s)[k]'(by rw[az.out];exact hlt)=(s.cap[k].2.1.toNat,s.cap[k].1.toNat):=by unfold Ad;simp
     rw[h2]at h;exact h
    obtain⟨x,hx⟩:∃x,x=s.cap[k]:=⟨_,rfl⟩;rw[<-hx]at e1 e2 e3 e4 e5 aR an;obtain⟨coI,aB,g,nn,dd⟩:=x;obtain⟨⟨i1,i2⟩,i3,i4⟩:=aR;replace i1:0<=coI:=i1;replace i2:coI<s.ps.length:=i2;replace i3:0<=aB:=i3;replace i4:aB<s.ps.length:=i4;obtain⟨co,rfl⟩:∃c:Nat,coI=(c:Int):=⟨coI.toNat,by omega⟩;obtain⟨ho,rfl⟩:∃c:Nat,aB=(c:Int):=⟨aB.toNat,by omega⟩;replace e1:wr.cell? ⟨b,o+k*5,none⟩=some (.int .i64 (co:Int)):=e1;replace e2:wr.cell? ⟨b,o+k*5+1,none⟩=some (.int .i64 (ho:Int)):=e2;replace e3:wr.cell? ⟨b,o+k*5+2,none⟩=some (.bool g):=e3;replace e4:wr.cell? ⟨b,o+k*5+3,none⟩=some (.string nn):=e4;replace e5:wr.cell? ⟨b,o+k*5+4,none⟩=some (.string dd):=e5;replace an:Hid (∀p,Cz (Ad s) (k+1) p=E8 (Cz (Ad s) k) ho co p):=fun p=>by have h:=an.out p;simpa using h
    replace hx:=zh hx;have j0:(0:Int)<=(k:Int):=by omega
    have j1:(k:Int)<(s.cap.length:Int):=by omega
    have ar:ho<s.ps.length:=by omega
    have aq:Hid (Bk (wr.alloc (.cells #[.int .i64 (co:Int),.int .i64 (ho:Int),.bool g,.string nn,.string dd] 59)) wr.heap.size 59 [.int .i64 (co:Int),.int .i64 (ho:Int),.bool g,.string nn,.string dd]):=Bk.new wr _ _;have ah:=zh (hB.out.alloc hB.out.size (.cells #[.int .i64 (co:Int),.int .i64 (ho:Int),.bool g,.string nn,.string dd] 59));have aj:=zh (hG.out.alloc (.cells #[.int .i64 (co:Int),.int .i64 (ho:Int),.bool g,.string nn,.string dd] 59));have ay:w.heap.size+1<wr.heap.size:=hG.out.lt;clear aQ
    go_wp2_with fail
    obtain⟨W1,aO⟩:∃W,W=wr.alloc (.cells #[.int .i64 (co:Int),.int .i64 (ho:Int),.bool g,.string nn,.string dd] 59):=⟨_,rfl⟩;rw[<-aO]at aq ah aj ⊢;obtain⟨xb,aU⟩:∃b,b=wr.heap.size:=⟨_,rfl⟩;rw[<-aU]at aq ay ⊢;obtain⟨vh,ai⟩:∃x,x=v ho:=⟨_,rfl⟩;have av:=aj.out.hd ho ar;have ak:=zh (aj.out.rows ho ar);rw[<-ai]at av ak
    have aT:Hid (vh.ownBlock≠some xb):=fun e=>by
     have h1:=(hG.out.rows ho ar).lt xb (by rw[<-ai];exact e);omega
    have aS:Hid (vh.ownBlock≠some (w.heap.size+1)):=by rw[ai];exact hG.out.ne ho ar
    replace ai:=zh ai;clear aU;clear aO hB hG e1 e2 e3 e4 e5 aY;have ag:=aj.out.lt;have a1:=aq.out.lt
    have HO:Hid (∀W,Below W1.heap.size W1 W->W.cell? ⟨xb,0,none⟩=some (.int .i64 (co:Int))/\W.cell? ⟨xb,1,none⟩=some (.int .i64 (ho:Int))):=fun W h =>
     ⟨(aq.out.below h).c0,(aq.out.below h).c1⟩
    have aP:=aX.out k ho;have q0:(0:Int)<=(ho:Int):=by omega
    have q1:(ho:Int)<(s.ps.length:Int):=by omega
    refine wp_region_noPanic ?_;refine wp_region_held_drew (S:=fun W=>W.cell? ⟨xb,0,none⟩=some (.int .i64 (co:Int))/\W.cell? ⟨xb,1,none⟩=some (.int .i64 (ho:Int))) (by kernel_rfl) (HO.out _ (Below.refl _ _).drew) (fun af=>?_);replace af:=zh af;refine tkdF (v:=?_) 0 rfl (af.out) (Or.inl ⟨by rfl,?_⟩) ?_;rotate_left
    · (intro w aa;obtain⟨q1,q2⟩:=aa;go_simp<;>with_reducible rfl)
    try simp only[Act.put,List.setIfInBounds_toArray]
    refine tkdF (v:=?_) 1 rfl (af.out) (Or.inl ⟨by rfl,?_⟩) ?_;rotate_left
    · (intro w aa;obtain⟨q1,q2⟩:=aa;go_simp<;>with_reducible rfl)
    try simp only[Act.put]
    refine tkdF (v:=?_) 2 rfl (af.out) (Or.inl ⟨by rfl,?_⟩) ?_;rotate_left
    · (intro w aa;obtain⟨q1,q2⟩:=aa;go_simp<;>with_reducible rfl)
    try simp only[Act.put]
    refine tkdF (v:=?_) 3 rfl (af.out) (Or.inl ⟨by rfl,?_⟩) ?_;rotate_left
    · (intro w aa;obtain⟨q1,q2⟩:=aa;go_simp<;>with_reducible rfl)
    try simp only[Act.put]
    refine tkdF (v:=?_) 4 rfl (af.out) (Or.inl ⟨by rfl,?_⟩) ?_;rotate_left
    · (intro w aa;obtain⟨q1,q2⟩:=aa;go_simp<;>with_reducible rfl)
    try simp only[Act.put]
    refine tkdF (v:=?_) 5 rfl (af.out) (Or.inl ⟨by rfl,?_⟩) ?_;rotate_left
    · (intro w aa;obtain⟨q1,q2⟩:=aa;go_simp<;>with_reducible rfl)
    try simp only[Act.put]
    refine tkdF (v:=?_) 6 rfl (af.out) (Or.inl ⟨by rfl,?_⟩) ?_;rotate_left
    · (intro w aa;obtain⟨q1,q2⟩:=aa;go_simp<;>with_reducible rfl)
    try simp only[Act.put]
    refine tkdF (v:=?_) 8 rfl (af.out) (Or.inl ⟨by rfl,?_⟩) ?_;rotate_left
    · (intro w aa;obtain⟨q1,q2⟩:=aa;go_simp<;>with_reducible rfl)
    try simp only[Act.put]
    refine tkdF (v:=?_) 9 rfl (af.out) (Or.inl ⟨by rfl,?_⟩) ?_;rotate_left
    · (intro w aa;obtain⟨q1,q2⟩:=aa;go_simp<;>with_reducible rfl)
    try simp only[Act.put]
    have aM:Hid (Below W1.heap.size W1 W1.drew):=(Below.refl _ W1).drew;have d:Hid (Below W1.heap.size W1 (W1.alloc (.cells #[.int .i64 (co:Int)] 3)).drew):=((Below.refl _ W1).alloc (Nat.le_refl _) _).drew;refine wpAnyH_ready (rs:=[7,10]) (by kernel_rfl) (by simp) ?_;refine AllReadyH.cons (o:=_) rfl (fun K hK=>?_) ?_
    · have hh:=(aM.out.cell (p:=⟨w.heap.size+1,ho,none⟩) ag).trans av;go_simp;clear hh;refine hK.out _ _ (HO.out _ aM.out) (fun _=>?_);clear hK K
      try simp only[Act.put,List.setIfInBounds_toArray,List.set_cons_zero,List.set_cons_succ]
      refine wpAnyH_ready (rs:=[10]) (by kernel_rfl) (by simp) ?_;refine AllReadyH.cons (o:=_) rfl (fun K hK=>?_) ?_
      · go_simp;refine hK.out _ _ (HO.out _ d.out) (fun _=>?_);clear hK K
        try simp only[Act.put,List.setIfInBounds_toArray,List.set_cons_zero,List.set_cons_succ]
        refine wpAnyH_ready (rs:=[11]) (by kernel_rfl) (by simp) ?_;refine AllReadyH.cons (o:=_) rfl (fun K hK=>?_) ?_
        · rw [if_pos (by rfl)];refine Bb _ _ _ 26 rfl w.heap.size 3 i0 (.int .i64 0) 1 8 Tryz.underlying26 aA.out aC.out aD.out aE.out rfl (by decide) vh (Cz (Ad s) k ho).length (BW (Cz (Ad s) k ho)) rfl (AR ak.out d.out) ⟨W1.heap.size,0,none⟩ 1 1 [.int .i64 (co:Int)] rfl rfl (Cx W1 _ _) (Bg _ rfl) (by omega) (by unfold maxLen;omega) (by omega) (ah.out.trans (d.out.mono ah.out.size)).size ?_;intro vb wb ao ad aw;have ae:Hid (Bk wb xb 59 [.int .i64 (co:Int),.int .i64 (ho:Int),.bool g,.string nn,.string dd]):=(aq.out.below d.out).grown ad (fun e=>aT.out e.symm);have al:=zh (ah.out.trans (d.out.mono ah.out.size));have aG:Hid (Below w.heap.size w wb):=al.out.grown ad al.out.size (fun b e=>(ak.out.lt b e).1)
          have aI:Hid (Gr (wb.setCell ⟨w.heap.size+1,ho,none⟩ vb) w.heap.size (w.heap.size+1) s.ps.length (fun i=>if i=ho then vb else v i) (Cz (Ad s) (k+1))):=by
           have h:=((aj.out.alloc (.cells #[.int .i64 (co:Int)] 3)).drew).step (q:=co) ar (u:=vb) (W':=wb) (by rw[<-ai.out];exact ad) ao (by rw[<-ai.out];exact aw);exact h.congr fun i _=>(an.out i).symm
          have aH:Hid (Below w.heap.size w (wb.setCell ⟨w.heap.size+1,ho,none⟩ vb)):=aG.out.setCell (p:=⟨w.heap.size+1,ho,none⟩) (Nat.le_succ _) _;have am:=ad.block (w.heap.size+1) (Nat.lt_of_lt_of_le ag d.out.size) (fun e=>aS.out e.symm);have y1:=(World.cell?_of_block (a:=⟨w.heap.size+1,ho,none⟩) am).trans ((d.out.cell (p:=⟨w.heap.size+1,ho,none⟩) ag).trans av);have y2:=(World.frozen?_of_block (a:=⟨w.heap.size+1,ho,none⟩) am).trans ((d.out.frozen (p:=⟨w.heap.size+1,ho,none⟩) ag).trans (aj.out.fr ho));have y3:w.heap.size+1<wb.heap.size:=Nat.lt_of_lt_of_le (Nat.lt_of_lt_of_le ag d.out.size) ad.size
          rcases ao.2 with⟨_,ax⟩ | ⟨g9,cap9,cur9,rfl,_⟩
          · exact absurd ax (by omega)
          clear ao ad aw an d am al;refine hK.out _ _ ⟨ae.out.c0,ae.out.c1⟩ (fun _=>?_);clear hK K
          try simp only[Act.put,List.setIfInBounds_toArray]
          refine tkdF (v:=?_) 12 rfl (⟨ae.out.c0,ae.out.c1⟩) (Or.inl ⟨by rfl,?_⟩) ?_;rotate_left
          · (intro w aa;obtain⟨q1,q2⟩:=aa;go_simp<;>with_reducible rfl)
          try simp only[Act.put]
          refine wpAnyH_ready (rs:=[13]) (by kernel_rfl) (by simp) ?_;refine AllReadyH.cons (o:=_) rfl (fun K hK=>?_) ?_
          · go_simp;refine hK.out _ _ ⟨(ae.out.far (p:=⟨w.heap.size+1,ho,none⟩) (Nat.ne_of_gt ay) _).c0,(ae.out.far (p:=⟨w.heap.size+1,ho,none⟩) (Nat.ne_of_gt ay) _).c1⟩ (fun _=>?_);clear hK K
            try simp only[Act.put,List.setIfInBounds_toArray,List.set_cons_zero,List.set_cons_succ]
            refine wpAnyH_done (by kernel_rfl) ?_ _;refine NoPanic.normal ?_;clear y1 y2 y3 HO aP;go_wp2
            go_roundw
            case rel=>exact⟨k+1,_,by omega,by go_num,aH,aI⟩
            case measure=>simp[intOf];omega
          exact AllReadyH.nil
        exact AllReadyH.nil
      exact AllReadyH.nil
    refine AllReadyH.cons (o:=_) rfl (fun K hK=>?_) ?_
    · go_simp;refine hK.out _ _ (HO.out _ d.out) (fun _=>?_);clear hK K
      try simp only[Act.put,List.setIfInBounds_toArray,List.set_cons_zero,List.set_cons_succ]
      refine wpAnyH_ready (rs:=[7]) (by kernel_rfl) (by simp) ?_;refine AllReadyH.cons (o:=_) rfl (fun K hK=>?_) ?_
      · have hh:=(d.out.cell (p:=⟨w.heap.size+1,ho,none⟩) ag).trans av;go_simp;clear hh;refine hK.out _ _ (HO.out _ d.out) (fun _=>?_);clear hK K
        try simp only[Act.put,List.setIfInBounds_toArray,List.set_cons_zero,List.set_cons_succ]
        refine wpAnyH_ready (rs:=[11]) (by kernel_rfl) (by simp) ?_;refine AllReadyH.cons (o:=_) rfl (fun K hK=>?_) ?_
        · rw [if_pos (by rfl)];refine Bb _ _ _ 26 rfl w.heap.size 3 i0 (.int .i64 0) 1 8 Tryz.underlying26 aA.out aC.out aD.out aE.out rfl (by decide) vh (Cz (Ad s) k ho).length (BW (Cz (Ad s) k ho)) rfl (AR ak.out d.out) ⟨W1.heap.size,0,none⟩ 1 1 [.int .i64 (co:Int)] rfl rfl (Cx W1 _ _) (Bg _ rfl) (by omega) (by unfold maxLen;omega) (by omega) (ah.out.trans (d.out.mono ah.out.size)).size ?_;intro vb wb ao ad aw;have ae:Hid (Bk wb xb 59 [.int .i64 (co:Int),.int .i64 (ho:Int),.bool g,.string nn,.string dd]):=(aq.out.below d.out).grown ad (fun e=>aT.out e.symm);have al:=zh (ah.out.trans (d.out.mono ah.out.size));have aG:Hid (Below w.heap.size w wb):=al.out.grown ad al.out.size (fun b e=>(ak.out.lt b e).1)
          have aI:Hid (Gr (wb.setCell ⟨w.heap.size+1,ho,none⟩ vb) w.heap.size (w.heap.size+1) s.ps.length (fun i=>if i=ho then vb else v i) (Cz (Ad s) (k+1))):=by
           have h:=((aj.out.alloc (.cells #[.int .i64 (co:Int)] 3)).drew).step (q:=co) ar (u:=vb) (W':=wb) (by rw[<-ai.out];exact ad) ao (by rw[<-ai.out];exact aw);exact h.congr fun i _=>(an.out i).symm
          have aH:Hid (Below w.heap.size w (wb.setCell ⟨w.heap.size+1,ho,none⟩ vb)):=aG.out.setCell (p:=⟨w.heap.size+1,ho,none⟩) (Nat.le_succ _) _;have am:=ad.block (w.heap.size+1) (Nat.lt_of_lt_of_le ag d.out.size) (fun e=>aS.out e.symm);have y1:=(World.cell?_of_block (a:=⟨w.heap.size+1,ho,none⟩) am).trans ((d.out.cell (p:=⟨w.heap.size+1,ho,none⟩) ag).trans av);have y2:=(World.frozen?_of_block (a:=⟨w.heap.size+1,ho,none⟩) am).trans ((d.out.frozen (p:=⟨w.heap.size+1,ho,none⟩) ag).trans (aj.out.fr ho));have y3:w.heap.size+1<wb.heap.size:=Nat.lt_of_lt_of_le (Nat.lt_of_lt_of_le ag d.out.size) ad.size
          rcases ao.2 with⟨_,ax⟩ | ⟨g9,cap9,cur9,rfl,_⟩
          · exact absurd ax (by omega)
          clear ao ad aw an d am al;refine hK.out _ _ ⟨ae.out.c0,ae.out.c1⟩ (fun _=>?_);clear hK K
          try simp only[Act.put,List.setIfInBounds_toArray]
          refine tkdF (v:=?_) 12 rfl (⟨ae.out.c0,ae.out.c1⟩) (Or.inl ⟨by rfl,?_⟩) ?_;rotate_left
          · (intro w aa;obtain⟨q1,q2⟩:=aa;go_simp<;>with_reducible rfl)
          try simp only[Act.put]
          refine wpAnyH_ready (rs:=[13]) (by kernel_rfl) (by simp) ?_;refine AllReadyH.cons (o:=_) rfl (fun K hK=>?_) ?_
          · go_simp;refine hK.out _ _ ⟨(ae.out.far (p:=⟨w.heap.size+1,ho,none⟩) (Nat.ne_of_gt ay) _).c0,(ae.out.far (p:=⟨w.heap.size+1,ho,none⟩) (Nat.ne_of_gt ay) _).c1⟩ (fun _=>?_);clear hK K
            try simp only[Act.put,List.setIfInBounds_toArray,List.set_cons_zero,List.set_cons_succ]
            refine wpAnyH_done (by kernel_rfl) ?_ _;refine NoPanic.normal ?_;clear y1 y2 y3 HO aP;go_wp2
            go_roundw
            case rel=>exact⟨k+1,_,by omega,by go_num,aH,aI⟩
            case measure=>simp[intOf];omega
          exact AllReadyH.nil
        exact AllReadyH.nil
      exact AllReadyH.nil
    exact AllReadyH.nil
  · obtain rfl:k=s.cap.length:=by omega
    have aW:Hid (Gr wr w.heap.size (w.heap.size+1) s.ps.length v (Cz (Ad s) (Ad s).length)):=by rw[az.out];exact hG.out
    go_wp2;go_ret;exact⟨⟨_,v,rfl,aW.out⟩,hB.out⟩
end Ci
end
section
open Go.RowKit Go.Shelf
namespace Ci
open Nt
open Classical
theorem Gr.grown {W W':World} {B R n mb:Nat} {v:Nat->Value} {adj:Nat->List Nat} (h:Gr W B R n v adj) (hg:W.grownBy W' (some mb)) (hR:R≠mb) (hv:∀i,i<n->(v i).ownBlock≠some mb):Gr W' B R n v adj:=by
 have hb:W'.heap[R]? = W.heap[R]?:=hg.block R h.lt fun e=>hR (Option.some.inj e)
 exact ⟨Nat.lt_of_lt_of_le h.lt hg.size,fun i hi=>(World.cell?_of_block (a:=⟨R,i,none⟩) hb).trans (h.hd i hi),fun i=>(World.frozen?_of_block (a:=⟨R,i,none⟩) hb).trans (h.fr i),fun i hi=>(h.rows i hi).kept hg (by
  cases hu:(v i).ownBlock with
  | none=>exact .inl rfl
  | some b=>exact .inr fun e=>hv i hi (hu.trans e)),h.apart,h.ne,h.lowR⟩
noncomputable def bV (P:Prop):Bool:=@decide P (propDecidable P)
theorem C3 {P:Prop} (h:P):bV P=true:=@decide_eq_true P (propDecidable P) h
theorem BX {P:Prop} (h:¬P):bV P=false:=@decide_eq_false P (propDecidable P) h
theorem Wb {P:Prop} (h:bV P=true):P:=@of_decide_eq_true P (propDecidable P) h
noncomputable def unv (n:Nat) (V:Nat->Prop):Nat:=((List.range n).filter fun x=>bV (¬V x)).length
theorem KZ {n p:Nat} {V:Nat->Prop} (hp:p<n) (h:¬V p):unv n (fun x=>V x∨x=p)+1<=unv n V :=
 EU (fun _ _ hx=>C3 fun c=>(Wb hx) (.inl c)) ⟨p,List.mem_range.2 hp,BX fun c=>c (.inr rfl),C3 h⟩
theorem RL {n:Nat} {V V':Nat->Prop} (h:∀x,V x->V' x):unv n V'<=unv n V:=by
 unfold unv
 have : ∀l:List Nat,(l.filter fun x=>bV (¬V' x)).length<=(l.filter fun x=>bV (¬V x)).length:=by
  intro l
  induction l with
  | nil=>exact Nat.le_refl _
  | cons a l ih =>
    rw[List.filter_cons,List.filter_cons]
    by_cases h1:V a
    · rw[BX (fun c=>c (h a h1)),BX (fun c=>c h1)];exact ih
    · rw [C3 h1]
      cases bV (¬V' a)
      · simp only[Bool.false_eq_true,if_false,if_true,List.length_cons];omega
      · simp only[if_true,List.length_cons];omega
 exact this _
def MF (w:World) (n mb:Nat) (V:Nat->Prop):Prop:=∃c f,MapK Tryz.prog 3 κi w mb c f/\c+unv n V<=n/\∀x:Nat,x<n->f (x:Int)=if V x then some (.bool true) else none
structure VEnv (w:World) (ob gb vb R n mb B:Nat) (v:Nat->Value) (adj:Nat->List Nat):Prop where
 o:Bk w ob 106 [.map (some mb)]
 g:Bk w gb 99 [.slice (some ⟨R,0,none⟩) n n]
 f:Bk w vb 145 [.func (.func 140) #[] #[.pointer (some ⟨ob,0,none⟩),.pointer (some ⟨gb,0,none⟩),.pointer (some ⟨vb,0,none⟩)]]
 gr:Gr w B R n v adj
 n1:ob≠mb
 n2:gb≠mb
 n3:vb≠mb
 n4:R≠mb
 n5:∀i,i<n->(v i).ownBlock≠some mb
theorem VEnv.grown {w w':World} {ob gb vb R n mb B:Nat} {v:Nat->Value} {adj:Nat->List Nat} (h:VEnv w ob gb vb R n mb B v adj) (hg:w.grownBy w' (some mb)):VEnv w' ob gb vb R n mb B v adj :=
 ⟨h.o.grown hg fun e=>h.n1 (Option.some.inj e),h.g.grown hg fun e=>h.n2 (Option.some.inj e),h.f.grown hg fun e=>h.n3 (Option.some.inj e),h.gr.grown hg h.n4 h.n5,h.n1,h.n2,h.n3,h.n4,h.n5⟩
theorem NN (w:World):(zeroValue 4).run Tryz.prog w=.ok (.bool false) w:=by kernel_rfl
def La (E:List (Nat×Nat)) (n mb p:Nat) (V:Nat->Prop) (w:World) (e:Ending) (w':World):Prop:=e=.returned (.tuple #[])/\w.grownBy w' (some mb)/\∃V',MF w' n mb V'/\Vis E p V V'
theorem Jj (E:List (Nat×Nat)) (ob gb vb R n mb B:Nat) (v:Nat->Value) (adj:Nat->List Nat) (hn:n<=1000) (p:Nat) (V:Nat->Prop) (w:World) (hp:p<n) (hv:VEnv w ob gb vb R n mb B v adj) (hm:MF w n mb V) (hV:V p) :
 Calls Tryz.prog 140 #[.int .i64 (p:Int),.pointer (some ⟨ob,0,none⟩),.pointer (some ⟨gb,0,none⟩),.pointer (some ⟨vb,0,none⟩)] w (La E n mb p V w):=by
 have hP:Hid (∀e,e=.returned (.tuple #[])->La E n mb p V w e w):=fun e he=>⟨he,World.grownBy.refl _ _,V,hm,Vis.had hV⟩;obtain⟨c,f,hM,_,hf⟩:=hm;have d:=hM.look F3 Tryz.underlying106 (NN w) (E5 Tryz.underlying3 (a:=(p:Int)) (by omega) (by omega));rw[hf p hp,if_pos hV]at d;replace d:(Instr.lookup 106 (.map (some mb)) (.int .i64 (p:Int)) false).run Tryz.prog w=.ok (.bool true) w:=d;have c1:=hv.o.c0;have c2:=hv.o.lt;clear hM hf hv hV;go_enter Tryz.func140,Tryz.ntmps140;go_wp2;go_end0;exact hP.out _ rfl
theorem Pj (E:List (Nat×Nat)) (ob gb vb R n mb B:Nat) (v:Nat->Value) (adj:Nat->List Nat) (hn:n<=1000) (hE:∀p q,p<n->(q∈adj p↔(p,q)∈E)) (aK:InN n E) (aj:∀p,p<n->(adj p).length<=10000000) :
 ∀ (N p:Nat) (V:Nat->Prop) (w:World),p<n->VEnv w ob gb vb R n mb B v adj->MF w n mb V->unv n V<=N ->
  Calls Tryz.prog 140 #[.int .i64 (p:Int),.pointer (some ⟨ob,0,none⟩),.pointer (some ⟨gb,0,none⟩),.pointer (some ⟨vb,0,none⟩)] w (La E n mb p V w):=by
 intro N
 induction N with
 | zero =>
   intro p V w hp hv hm hN;exact Jj E ob gb vb R n mb B v adj hn p V w hp hv hm (Classical.byContradiction fun c=>by have:=KZ hp c;omega)
 | succ N ih =>
   intro p V w hp hv hm hN
   by_cases hV:V p
   · exact Jj E ob gb vb R n mb B v adj hn p V w hp hv hm hV
   · have aS:=KZ hp hV;have ax:Hid (VisL E p [] V fun x=>V x∨x=p):=VisL.start E p V;obtain⟨c,f,hM,aQ,hf⟩:=hm;have ao:=E5 Tryz.underlying3 (a:=(p:Int)) (by omega) (by omega);have aa:=hM.look F3 Tryz.underlying106 (NN w) ao;rw[hf p hp,if_neg hV]at aa;replace aa:(Instr.lookup 106 (.map (some mb)) (.int .i64 (p:Int)) false).run Tryz.prog w=.ok (.bool false) w:=aa;obtain⟨w1,aF,av,an⟩:=hM.put Gn F3 Tryz.underlying106 (by unfold maxLen;omega) ao (.bool true)
     have aw:Hid (MF w1 n mb fun x=>V x∨x=p):=by
      refine⟨_,_,av,?_,fun x hx=>?_⟩
      · rw[hf p hp,if_neg hV]
        show c+1+_<=n
        omega
      · by_cases e:x=p
        · subst e;rw[Cb,if_pos (.inr rfl)]
        · rw[BT (fun h=>e (by omega)),hf x hx]
          by_cases h2:V x
          · rw[if_pos h2,if_pos (.inl h2)]
          · rw[if_neg h2,if_neg fun h=>h.elim h2 e]
     have ae:=zh (hv.grown an);have ai:=zh an;have aL:unv n (fun x=>V x∨x=p)<=N:=by omega
     have c1:=hv.o.c0;have c2:=hv.o.lt;have d1:=ae.out.o.c0;have d2:=ae.out.g.c0;have d3:=ae.out.gr.hd p hp;have d4:=ae.out.gr.lt;have ad:=hv.gr.rows p hp;have aP:=zh hv;have az:Hid ((v p).ownBlock≠some mb):=hv.n5 p hp;have aR:=aj p hp;have p0:(0:Int)<=(p:Int):=by omega
     have p1:(p:Int)<(n:Int):=by omega
     have ihH:=zh ih;have ah:Hid (∀q,(p,q)∈E->q∈adj p):=fun q h=>(hE p q hp).2 h;have aD:Hid (∀q,q∈adj p->(p,q)∈E/\q<n):=fun q h=>⟨(hE p q hp).1 h,(aK _ ((hE p q hp).1 h)).2⟩;clear hM av hf an ao ih aj
     rcases Eg ad with⟨ak,ag⟩ | ⟨g,cap,ar,_,aN,_,d⟩
     · rw [ak]at d3;have hP:Hid (∀e,e=.returned (.tuple #[])->La E n mb p V w e w1):=fun e he=>⟨he,ai.out,_,aw.out,ax.out.end fun q h=>by have:=ah.out q h;rw[ag]at this;exact this⟩;clear ad ak ag;go_enter Tryz.func140,Tryz.ntmps140;go_wp2
       go_loopw [17] (fun i wr=>i=.int .i64 0/\wr=w1) (fun _ _=>0)
       case atStart=>exact⟨rfl,rfl⟩
       case round =>
        obtain⟨rfl,rfl⟩:=hrel;go_wp2;go_end0;exact hP.out _ rfl
     · rw [ar]at d3;rw[ar]at az;have aA:g≠mb:=fun e=>az.out (by rw[e];rfl);replace d:=zh d;have hP:Hid (∀e wz V',e=.returned (.tuple #[])->w.grownBy wz (some mb)->MF wz n mb V'->VisL E p (adj p) V V'->La E n mb p V w e wz):=fun e wz V' h1 h2 h3 h4=>⟨h1,h2,V',h3,h4.end fun q h=>ah.out q h⟩;clear ad ar;go_enter Tryz.func140,Tryz.ntmps140;go_wp2
       go_loopw [17] (fun i wr=>∃(j:Nat) (V':Nat->Prop),j<=(adj p).length/\i=.int .i64 (j:Int)/\Hid (w.grownBy wr (some mb))/\Hid (MF wr n mb V')/\Hid (VisL E p ((adj p).take j) V V')) (fun i _=>(adj p).length-(intOf i).toNat)
       case atStart=>exact⟨0,_,Nat.zero_le _,rfl,ai,aw,ax⟩
       case round =>
        obtain⟨j,V',hj,rfl,hg,aB,af⟩:=hrel;clear aa aF c1 c2 d1 d2 d3 d4
        by_cases hlt:j<(adj p).length
        · obtain ⟨aq,aE⟩:=aD.out (adj p)[j] (List.getElem_mem hlt);have e1:=(World.cell?_of_block (a:=⟨g,j,none⟩) (hg.out.block g aN fun e=>aA (Option.some.inj e))).trans (d.out j hlt);have au:=zh (aP.out.grown hg.out)
          have aH:unv n V'<=N:=Nat.le_trans (RL fun x hx=>by
           rcases hx with hx | rfl
           · exact af.out.1 x hx
           · exact af.out.2.1) aL
          have aG:Hid ((adj p).take (j+1)=(adj p).take j++[(adj p)[j]]):=List.take_succ_eq_append_getElem hlt;obtain⟨q,hq⟩:∃x,x=(adj p)[j]:=⟨_,rfl⟩;rw[<-hq]at aq aE e1 aG;replace hq:=zh hq;have ihq:=zh (ihH.out q V' wr aE au.out aB.out aH);have am:=zh aq;have d1:=au.out.f.c0;have d2:=au.out.f.lt;have j0:(0:Int)<=(j:Int):=by omega
          have j1:(j:Int)<((adj p).length:Int):=by omega
          clear aq aH
          go_wp2_with fail
          refine ihq.out.mono ?_;rintro e w2 ⟨rfl,ay,V2,aC,al⟩;have aM:=zh (hg.out.trans ay);have aO:=zh aC;have aI:Hid (VisL E p ((adj p).take (j+1)) V V2):=by rw[aG.out];exact af.out.step am.out al
          clear ay aC al e1 d1 d2;go_wp2
          go_roundw
          case rel=>exact⟨j+1,V2,by omega,by go_num,aM,aO,aI⟩
          case measure=>simp[intOf];omega
        · obtain rfl:j=(adj p).length:=by omega
          have aJ:Hid (VisL E p (adj p) V V'):=by have h:=af.out;rwa [List.take_length]at h
          go_wp2;go_end0;exact hP.out _ _ V' rfl hg.out aB.out aJ.out
end Ci
end
section
open Go.RowKit Go.Shelf
namespace Ci
open Nt
open Classical
def ReachM (w:World) (n mb:Nat) (E:List (Nat×Nat)) (p:Nat):Prop:=∃c f,MapK Tryz.prog 3 κi w mb c f/\∀x:Nat,x<n->f (x:Int)=if Reach E p x then some (.bool true) else none
def Wc (E:List (Nat×Nat)) (n p:Nat) (w:World) (e:Ending) (w':World):Prop:=(∃mb,e=.returned (.map (some mb))/\w.heap.size<=mb/\ReachM w' n mb E p)/\Below w.heap.size w w'
theorem GQ (E:List (Nat×Nat)) (R n B p:Nat) (v:Nat->Value) (adj:Nat->List Nat) (w:World) (hn:n<=1000) (hE:∀p q,p<n->(q∈adj p↔(p,q)∈E)) (af:InN n E) (ad:∀p,p<n->(adj p).length<=10000000) (hp:p<n) (hG:Gr w B R n v adj) :
 Calls Tryz.prog 95 #[.slice (some ⟨R,0,none⟩) n n,.int .i64 (p:Int)] w (Wc E n p w):=by
 have am:=@run_makeMap Tryz.prog
 have kv:=zh (fun ob gb vb mb W hv hm=>Pj E ob gb vb R n mb B v adj hn hE af ad n p (fun _=>False) W hp hv hm (by
  have:=List.length_filter_le (fun x:Nat=>bV (¬False)) (List.range n);rw[List.length_range]at this;exact this))
 have s1:(w.alloc (.cells #[.slice (some ⟨R,0,none⟩) n n] 99)).heap.size=w.heap.size+1:=by simp
 have s2:((w.alloc (.cells #[.slice (some ⟨R,0,none⟩) n n] 99)).alloc (.map #[] 0)).heap.size=w.heap.size+1+1:=by simp
 have s3:(((w.alloc (.cells #[.slice (some ⟨R,0,none⟩) n n] 99)).alloc (.map #[] 0)).alloc (.cells #[.map (some (w.heap.size+1))] 106)).heap.size=w.heap.size+1+1+1:=by simp
 have g1:Bk (w.alloc (.cells #[.slice (some ⟨R,0,none⟩) n n] 99)) w.heap.size 99 [.slice (some ⟨R,0,none⟩) n n]:=Bk.new w _ _;have m2:MapK Tryz.prog 3 κi ((w.alloc (.cells #[.slice (some ⟨R,0,none⟩) n n] 99)).alloc (.map #[] 0)) (w.heap.size+1) 0 (fun _=>none):=by have h:=MapK.made (w.alloc (.cells #[.slice (some ⟨R,0,none⟩) n n] 99)) Tryz.prog 3 κi;rwa [s1]at h
 have o3:Bk (((w.alloc (.cells #[.slice (some ⟨R,0,none⟩) n n] 99)).alloc (.map #[] 0)).alloc (.cells #[.map (some (w.heap.size+1))] 106)) (w.heap.size+1+1) 106 [.map (some (w.heap.size+1))]:=by have h:=Bk.new ((w.alloc (.cells #[.slice (some ⟨R,0,none⟩) n n] 99)).alloc (.map #[] 0)) 106 [.map (some (w.heap.size+1))];rwa [s2]at h
 have f4:Bk ((((w.alloc (.cells #[.slice (some ⟨R,0,none⟩) n n] 99)).alloc (.map #[] 0)).alloc (.cells #[.map (some (w.heap.size+1))] 106)).alloc (.cells #[.nilFunc] 145)) (w.heap.size+1+1+1) 145 [.nilFunc]:=by have h:=Bk.new (((w.alloc (.cells #[.slice (some ⟨R,0,none⟩) n n] 99)).alloc (.map #[] 0)).alloc (.cells #[.map (some (w.heap.size+1))] 106)) 145 [.nilFunc];rwa [s3]at h
 have ah:Hid (Below w.heap.size w ((((w.alloc (.cells #[.slice (some ⟨R,0,none⟩) n n] 99)).alloc (.map #[] 0)).alloc (.cells #[.map (some (w.heap.size+1))] 106)).alloc (.cells #[.nilFunc] 145))):=((((Below.refl _ w).alloc (Nat.le_refl _) _).alloc (by simp) _).alloc (by simp<;>omega) _).alloc (by simp<;>omega) _;have ae:Hid (Below w.heap.size w ((((w.alloc (.cells #[.slice (some ⟨R,0,none⟩) n n] 99)).alloc (.map #[] 0)).alloc (.cells #[.map (some (w.heap.size+1))] 106)).alloc (.cells #[.func (.func 140) #[] #[.pointer (some ⟨w.heap.size+1+1,0,none⟩),.pointer (some ⟨w.heap.size,0,none⟩),.pointer (some ⟨w.heap.size+1+1+1,0,none⟩)]] 145))):=((((Below.refl _ w).alloc (Nat.le_refl _) _).alloc (by simp) _).alloc (by simp<;>omega) _).alloc (by simp<;>omega) _;have f5:Bk ((((w.alloc (.cells #[.slice (some ⟨R,0,none⟩) n n] 99)).alloc (.map #[] 0)).alloc (.cells #[.map (some (w.heap.size+1))] 106)).alloc (.cells #[.func (.func 140) #[] #[.pointer (some ⟨w.heap.size+1+1,0,none⟩),.pointer (some ⟨w.heap.size,0,none⟩),.pointer (some ⟨w.heap.size+1+1+1,0,none⟩)]] 145)) (w.heap.size+1+1+1) 145 [.func (.func 140) #[] #[.pointer (some ⟨w.heap.size+1+1,0,none⟩),.pointer (some ⟨w.heap.size,0,none⟩),.pointer (some ⟨w.heap.size+1+1+1,0,none⟩)]]:=by have h:=Bk.new (((w.alloc (.cells #[.slice (some ⟨R,0,none⟩) n n] 99)).alloc (.map #[] 0)).alloc (.cells #[.map (some (w.heap.size+1))] 106)) 145 [.func (.func 140) #[] #[.pointer (some ⟨w.heap.size+1+1,0,none⟩),.pointer (some ⟨w.heap.size,0,none⟩),.pointer (some ⟨w.heap.size+1+1+1,0,none⟩)]];rwa [s3]at h
 have c1:=f4.c0;have c2:=f4.frozen 0;have c3:=f4.lt
 have d:Hid (VEnv ((((w.alloc (.cells #[.slice (some ⟨R,0,none⟩) n n] 99)).alloc (.map #[] 0)).alloc (.cells #[.map (some (w.heap.size+1))] 106)).alloc (.cells #[.func (.func 140) #[] #[.pointer (some ⟨w.heap.size+1+1,0,none⟩),.pointer (some ⟨w.heap.size,0,none⟩),.pointer (some ⟨w.heap.size+1+1+1,0,none⟩)]] 145)) (w.heap.size+1+1) w.heap.size (w.heap.size+1+1+1) R n (w.heap.size+1) B v adj):=by
  have al:=hG.lt;refine⟨o3.alloc _,((g1.alloc _).alloc _).alloc _,f5,hG.below (ae.out),by omega,by omega,by omega,by omega,fun i hi e=>?_⟩;have:=((hG.rows i hi).lt _ e).2;omega
 have aj:Hid (MF ((((w.alloc (.cells #[.slice (some ⟨R,0,none⟩) n n] 99)).alloc (.map #[] 0)).alloc (.cells #[.map (some (w.heap.size+1))] 106)).alloc (.cells #[.func (.func 140) #[] #[.pointer (some ⟨w.heap.size+1+1,0,none⟩),.pointer (some ⟨w.heap.size,0,none⟩),.pointer (some ⟨w.heap.size+1+1+1,0,none⟩)]] 145)) n (w.heap.size+1) fun _=>False):=by
  refine⟨0,_,(m2.alloc _).alloc _,?_,fun x _=>(if_neg fun h=>h).symm⟩;have:=List.length_filter_le (fun x:Nat=>bV (¬False)) (List.range n);rw[List.length_range]at this
  show 0+((List.range n).filter fun x=>bV (¬False)).length<=n
  omega
 have o5:=d.out.o.c0;clear s1 s2 s3 g1 m2 o3 f4 f5 ah;replace hG:=zh hG;clear hE af ad;go_enter Tryz.func95,Tryz.ntmps95
 go_wp2_with fail
 refine(kv.out _ _ _ _ _ d.out aj.out).mono ?_;rintro e w6 ⟨rfl,aa,V',ag,a⟩;have o6:=(d.out.grown aa).o.c0;have o7:=(d.out.grown aa).o.lt;have ai:Hid (Below w.heap.size w w6):=ae.out.grown aa ae.out.size (fun b e=>by cases e;exact Nat.le_succ _)
 have ak:Hid (ReachM w6 n (w.heap.size+1) E p):=by
  obtain⟨c,f,h1,_,h2⟩:=ag;refine⟨c,f,h1,fun x hx=>?_⟩;rw[h2 x hx]
  by_cases hr:Reach E p x
  · rw[if_pos hr,if_pos ((a.reach x).2 hr)]
  · rw[if_neg hr,if_neg fun h=>hr ((a.reach x).1 h)]
 clear aa ag a o5 c1 c2 c3;go_wp2;go_ret;exact⟨⟨_,rfl,Nat.le_succ _,ak.out⟩,ai.out⟩
end Ci
end
section
open Go.RowKit Go.Shelf
namespace Ci
open Nt
theorem Pk {w:World} {base m:Nat} {e:TypeId} {v:Value} {xs:List Value} (h:w.ownsRow base e 1 v (m+1) xs):∃g cap,v=.slice (some ⟨g,0,none⟩) (m+1) cap:=by
 rcases h.2 with⟨_,h0⟩ | ⟨g,cap,_,rfl,_⟩
 · omega
 · exact⟨g,cap,rfl⟩
def TurnI (n i j:Nat) (adj T:Nat->List Nat):Prop:=(∀q x,q<n->(x∈T q↔(x<i/\q∈adj x)∨(x=i/\q∈(adj i).take j)))/\∀q,(T q).length<=1000*i+j
theorem TurnI.next {n i:Nat} {adj T:Nat->List Nat} (h:TurnI n i (adj i).length adj T) (hl:(adj i).length<=1000):TurnI n (i+1) 0 adj T:=by
 refine⟨fun q x hq=>?_,fun q=>by have:=h.2 q;omega⟩;rw[h.1 q x hq,List.take_length];constructor
 · rintro(⟨a,b⟩ | ⟨rfl,b⟩)
   · exact .inl ⟨by omega,b⟩
   · exact .inl ⟨by omega,b⟩
 · rintro (⟨a,b⟩ | ⟨_,b⟩)
   · by_cases e:x=i
     · subst e;exact .inr ⟨rfl,b⟩
     · exact .inl ⟨by omega,b⟩
   · simp at b
theorem TurnI.step {n i j:Nat} {adj T:Nat->List Nat} (h:TurnI n i j adj T) (hj:j<(adj i).length):TurnI n i (j+1) adj (E8 T (adj i)[j] i):=by
 refine⟨fun q x hq=>?_,fun q=>?_⟩
 · unfold E8;rw[List.take_succ_eq_append_getElem hj]
   by_cases e:q=(adj i)[j]
   · rw [if_pos e,List.mem_append,h.1 q x hq,List.mem_append,List.mem_singleton,List.mem_singleton];constructor
     · rintro((a | ⟨a,b⟩) | a)
       · exact .inl a
       · exact .inr ⟨a,.inl b⟩
       · exact .inr ⟨a,.inr e⟩
     · rintro(a | ⟨a,b | _⟩)
       · exact .inl (.inl a)
       · exact .inl (.inr ⟨a,b⟩)
       · exact .inr a
   · rw [if_neg e,h.1 q x hq,List.mem_append,List.mem_singleton];constructor
     · rintro(a | ⟨a,b⟩)
       · exact .inl a
       · exact .inr ⟨a,.inl b⟩
     · rintro(a | ⟨a,b | b⟩)
       · exact .inl a
       · exact .inr ⟨a,b⟩
       · exact absurd b e
 · unfold E8;have:=h.2 q
   split
   · rw[List.length_append,List.length_singleton];omega
   · omega
theorem MG (R n B:Nat) (v:Nat->Value) (adj:Nat->List Nat) (w:World) (hn:n<=100) (aj:∀p,p<n->(adj p).length<=1000) (ar:∀p q,p<n->q∈adj p->q<n) (hG:Gr w B R n v adj) :
 Calls Tryz.prog 94 #[.slice (some ⟨R,0,none⟩) n n] w fun e w'=>(∃R' v' T,e=.returned (.slice (some ⟨R',0,none⟩) n n)/\Gr w' w.heap.size R' n v' T/\TurnI n n 0 adj T)/\Below w.heap.size w w':=by
 -- for 52
 have aP:=run_make_row' (P:=Tryz.prog) 99 26 (.slice none 0 0) 24 Tryz.underlying99 RJ rfl .i64 .i64 n (by omega) (by omega);have aB:Hid (Gr (w.alloc (.cells (madeCells #[(.slice none 0 0:Value)] n) 26)) w.heap.size w.heap.size n (fun _=>.slice none 0 0) fun _=>[]):=Gr.start w (Nat.le_refl _) n 26;have az:Hid (Below w.heap.size w (w.alloc (.cells (madeCells #[(.slice none 0 0:Value)] n) 26))):=(Below.refl _ w).alloc (Nat.le_refl _) _;have aC:Hid (TurnI n 0 0 adj fun _=>[]):=⟨fun q x _=>⟨fun h=>(by cases h),fun h=>(by rcases h with⟨h,_⟩ | ⟨_,h⟩<;>simp at h)⟩,fun _=>Nat.zero_le _⟩;obtain⟨i0,aq,aI⟩:=Option.map_eq_some_iff.1 If;simp only[Prod.mk.injEq]at aI;obtain⟨aw,ax,ay⟩:=aI;replace aq:=zh aq;replace aw:=zh aw;replace ax:=zh ax;replace ay:=zh ay;replace hG:=zh hG;replace aj:=zh aj;replace ar:=zh ar;go_enter Tryz.func94,Tryz.ntmps94;go_wp2;clear aP
 go_loopw [13] (fun ix wr=>∃(i:Nat) (v':Nat->Value) (T:Nat->List Nat),i<=n/\ix=.int .i64 (i:Int)/\Hid (Below w.heap.size w wr)/\Hid (Gr wr w.heap.size w.heap.size n v' T)/\Hid (TurnI n i 0 adj T)) (fun ix _=>n-(intOf ix).toNat)
 case atStart=>exact⟨0,_,_,Nat.zero_le _,rfl,az,aB,aC⟩
 case round =>
  obtain⟨i,v',T,hi,rfl,hB,an,hT⟩:=hrel;clear az aB aC
  by_cases ak:i<n
  · have aF:=aj.out i ak;have hd:=(hB.out.cell (p:=⟨R,i,none⟩) hG.out.lt).trans (hG.out.hd i ak);have j0:(0:Int)<=(i:Int):=by omega
    have j1:(i:Int)<(n:Int):=by omega
    rcases Eg (hG.out.rows i ak) with⟨am,al⟩ | ⟨g,cap,aH,_,aO,_,d⟩
    · rw [am]at hd
      have ah:Hid (TurnI n (i+1) 0 adj T):=by
       have h:=hT.out;refine TurnI.next ?_ aF;rw[al];exact h
      clear am al;go_wp2
      go_loopw [20] (fun ix wz=>ix=.int .i64 0/\wz=wr) (fun _ _=>0)
      case atStart=>exact⟨rfl,rfl⟩
      case round =>
       obtain⟨rfl,rfl⟩:=hrel;go_wp2;exact⟨⟨i+1,v',T,by omega,by go_num,hB,an,ah⟩,by simp only[intOf];omega⟩
    · rw [aH]at hd;replace d:=zh d;clear aH;go_wp2
      go_loopw [20] (fun ix wz=>∃(j:Nat) (v2:Nat->Value) (T2:Nat->List Nat),j<=(adj i).length/\ix=.int .i64 (j:Int)/\Hid (Below w.heap.size w wz)/\Hid (Gr wz w.heap.size w.heap.size n v2 T2)/\Hid (TurnI n i j adj T2)) (fun ix _=>(adj i).length-(intOf ix).toNat)
      case atStart=>exact⟨0,v',T,Nat.zero_le _,rfl,hB,an,hT⟩
      case round =>
       obtain⟨j,v2,T2,hj,rfl,af,ad,ah⟩:=hrel
       by_cases hjl:j<(adj i).length
       · have hq:=ar.out i (adj i)[j] ak (List.getElem_mem hjl);have e1:=(af.out.cell (p:=⟨g,j,none⟩) aO).trans (d.out j hjl);have aD:=zh (ah.out.step hjl);obtain⟨q,av⟩:∃x,x=(adj i)[j]:=⟨_,rfl⟩;rw[<-av]at hq e1 aD;replace av:=zh av;obtain⟨vh,ae⟩:∃x,x=v2 q:=⟨_,rfl⟩;have aE:=ad.out.hd q hq;have aN:=ad.out.fr q;have aR:=ad.out.lt;have aa:=ad.out.rows q hq;rw[<-ae]at aE aa;have aQ:Hid (vh.ownBlock≠some w.heap.size):=by rw[ae];exact ad.out.ne q hq
         replace ae:=zh ae;replace aa:=zh aa;have aS:=ah.out.2 q;have aT:=af.out.size;have aA:Hid (Below w.heap.size w (wr.alloc (.cells #[.int .i64 (i:Int)] 3))):=af.out.alloc af.out.size _;have ag:=zh (ad.out.alloc (.cells #[.int .i64 (i:Int)] 3));have aM:Hid (World.cell? (wr.alloc (.cells #[.int .i64 (i:Int)] 3)) ⟨w.heap.size,q,none⟩=some vh):=by rw[ae.out];exact ag.out.hd q hq
         have q0:(0:Int)<=(q:Int):=by omega
         have q1:(q:Int)<(n:Int):=by omega
         have q2:(0:Int)<=(j:Int):=by omega
         have q3:(j:Int)<((adj i).length:Int):=by omega
         go_wp2_with (at_builtin;refine wpList_append_new _ rfl _ _ 26 rfl w.heap.size 3 i0 (.int .i64 0) 1 8 Tryz.underlying26 aq.out aw.out ax.out ay.out rfl (by decide) vh (T2 q).length (BW (T2 q)) rfl (aa.out.alloc _) ⟨wr.heap.size,0,none⟩ 1 1 [.int .i64 (i:Int)] rfl rfl (Cx _ _ _) (Bg _ rfl) (by omega) (by unfold maxLen;omega) (by omega) (by simp;omega) ?_;intro vb wb au ai aG;have aK:Hid (Gr (wb.setCell ⟨w.heap.size,q,none⟩ vb) w.heap.size w.heap.size n (fun x=>if x=q then vb else v2 x) (E8 T2 q i)):=(ag.out.step hq (by rw[<-ae.out];exact ai) au (by rw[<-ae.out];exact aG));have aJ:Hid (Below w.heap.size w (wb.setCell ⟨w.heap.size,q,none⟩ vb)):=((aA.out.grown ai aA.out.size (fun b e=>(aa.out.lt b e).1)).setCell (p:=⟨w.heap.size,q,none⟩) (Nat.le_refl _) _);have ao:=ai.block w.heap.size ag.out.lt (fun e=>aQ.out e.symm);have y1:=(World.cell?_of_block (a:=⟨w.heap.size,q,none⟩) ao).trans aM.out;have y2:=(World.frozen?_of_block (a:=⟨w.heap.size,q,none⟩) ao).trans (ag.out.fr q);have y3:w.heap.size<wb.heap.size:=Nat.lt_of_lt_of_le ag.out.lt ai.size;obtain⟨g9,cap9,rfl⟩:=Pk au;clear au ai aG ao aE aN)
         exact⟨⟨j+1,_,_,by omega,by go_num,aJ,aK,aD⟩,by simp only[intOf];omega⟩
       · obtain rfl:j=(adj i).length:=by omega
         have aL:=zh (ah.out.next aF);go_wp2;exact⟨⟨i+1,v2,T2,by omega,by go_num,af,ad,aL⟩,by simp only[intOf];omega⟩
  · obtain rfl:i=n:=by omega
    go_wp2;go_ret;exact⟨⟨_,v',T,rfl,an.out,hT.out⟩,hB.out⟩
end Ci
end
section
open Go.RowKit Go.Shelf
namespace Ci
open Nt
structure Kp (xs:List Nat) (w w':World):Prop where
 os:w'.os=w.os
 tape:w'.tape=w.tape
 output:w'.output=w.output
 size:w.heap.size<=w'.heap.size
 block:∀k,k<w.heap.size->k∉xs->w'.heap[k]? = w.heap[k]?
section
variable {xs:List Nat} {w w' w'':World} {B R n i b c mb:Nat} {v:Nat->Value} {adj ls:Nat->List Nat} {α:Type} {P:Program} {k:TypeId} {κ:α->Lit} {f:α->Option Value} {t:TypeId} {cs:List Value}
theorem Kp.refl (xs:List Nat) (w:World):Kp xs w w:=⟨rfl,rfl,rfl,Nat.le_refl _,fun _ _ _=>rfl⟩
theorem Kp.below (h:Kp xs w w') (hb:Below w'.heap.size w' w''):Kp xs w w'' :=
 ⟨hb.os.trans h.os,hb.tape.trans h.tape,hb.output.trans h.output,Nat.le_trans h.size hb.size,fun k hk hx=>(hb.block k (Nat.lt_of_lt_of_le hk h.size)).trans (h.block k hk hx)⟩
theorem Kp.alloc (h:Kp xs w w') (o:Obj):Kp xs w (w'.alloc o):=h.below ((Below.refl _ w').alloc (Nat.le_refl _) o)
theorem Kp.drew (h:Kp xs w w'):Kp xs w w'.drew:=h.below (Below.refl _ w').drew
theorem Kp.grown {row:Option Nat} (h:Kp xs w w') (hg:w'.grownBy w'' row) (hr:∀b,row=some b->b∈xs∨w.heap.size<=b):Kp xs w w'' :=
 ⟨hg.os.trans h.os,hg.tape.trans h.tape,hg.output.trans h.output,Nat.le_trans h.size hg.size,fun k hk hx=>(hg.block k (Nat.lt_of_lt_of_le hk h.size) (fun e=>by
   rcases hr k e.symm with h1 | h1
   · exact hx h1
   · omega)).trans (h.block k hk hx)⟩
theorem AA (w:World) (a:Addr) (u:Value):w.grownBy (w.setCell a u) (some a.block):=⟨rfl,rfl,rfl,by simp,fun k _ hk=>Below.heap_setCell _ _ _ _ (fun e=>hk (by rw[e]))⟩
theorem Lb (w:World) (o:Obj) (row:Option Nat):w.grownBy (w.alloc o) row:=⟨rfl,rfl,rfl,by simp,fun k hk _=>heap_alloc_old w o hk⟩
theorem Kp.set (h:Kp xs w w') {a:Addr} (u:Value) (ha:a.block∈xs∨w.heap.size<=a.block):Kp xs w (w'.setCell a u):=h.grown (AA w' a u) fun b e=>by cases e;exact ha
theorem Kp.to_below (h:Kp xs w w') {w0:World} (h0:Below w0.heap.size w0 w) (hx:∀x,x∈xs->w0.heap.size<=x):Below w0.heap.size w0 w' :=
 h0.trans ⟨h.os,h.tape,h.output,h.size,fun k hk=>h.block k (Nat.lt_of_lt_of_le hk h0.size) fun e=>by have:=hx k e;omega⟩
theorem Kp.heap (h:Kp xs w w') (hb:b<w.heap.size) (hx:b∉xs):w'.heap[b]? = w.heap[b]?:=h.block b hb hx
theorem Gr.of_block (h:Gr w B R n v adj) (hs:w.heap.size<=w'.heap.size) (hR:w'.heap[R]? = w.heap[R]?) (hv:∀i b,i<n->(v i).ownBlock=some b->w'.heap[b]? = w.heap[b]?):Gr w' B R n v adj :=
 ⟨Nat.lt_of_lt_of_le h.lt hs,fun i hi=>(World.cell?_of_block (a:=⟨R,i,none⟩) hR).trans (h.hd i hi),fun i=>(World.frozen?_of_block (a:=⟨R,i,none⟩) hR).trans (h.fr i),fun i hi=>by
   obtain⟨h1,h2⟩:=h.rows i hi;refine⟨h1,?_⟩
   rcases h2 with h2 | ⟨g,cap,cur,d,hg,hh,rest⟩
   · exact .inl h2
   · exact .inr ⟨g,cap,cur,d,hg,(hv i g hi (by rw[d];rfl)).trans hh,rest⟩,h.apart,h.ne,h.lowR⟩
theorem Gr.kp (h:Gr w B R n v adj) (hk:Kp xs w w') (hR:R∉xs) (hv:∀i b,i<n->(v i).ownBlock=some b->b∉xs):Gr w' B R n v adj :=
 h.of_block hk.size (hk.block R h.lt hR) fun i b hi e=>hk.block b ((h.rows i hi).lt b e).2 (hv i b hi e)
theorem MapK.kp (h:MapK P k κ w b c f) (hk:Kp xs w w') (hb:b∉xs):MapK P k κ w' b c f:=h.block (hk.block b h.lt hb)
theorem Bk.kp (h:Bk w b t cs) (hk:Kp xs w w') (hb:b∉xs):Bk w' b t cs:=by
 have e:=hk.block b h.lt hb;exact(show w'.heap[b]? = _ from e.trans h)
structure LM (w:World) (B mb n c:Nat) (v:Nat->Value) (ls:Nat->List Nat):Prop where
 map:∃f:Int->Option Value,MapK Tryz.prog 3 κi w mb c f/\∀x:Nat,x<n->f (x:Int)=if ls x=[] then none else some (v x)
 nil:∀x,x<n->ls x=[]->v x=.slice none 0 0
 rows:∀x,x<n->w.ownsRow B 3 1 (v x) (ls x).length (BW (ls x))
 apart:∀i j,i<n->j<n->i≠j->TT (v i) (v j)
 ne:∀x,x<n->(v x).ownBlock≠some mb
theorem LM.lt (h:LM w B mb n c v ls):mb<w.heap.size:=by obtain⟨f,h,_⟩:=h.map;exact h.lt
theorem LM.grown {row:Option Nat} (h:LM w B mb n c v ls) (hg:w.grownBy w' row) (hm:row≠some mb) (hv:∀x b,x<n->(v x).ownBlock=some b->row≠some b):LM w' B mb n c v ls:=by
 obtain⟨f,h1,h2⟩:=h.map;refine⟨⟨f,h1.kept hg fun e=>hm e.symm,h2⟩,h.nil,fun x hx=>(h.rows x hx).kept hg ?_,h.apart,h.ne⟩
 cases hu:(v x).ownBlock with
 | none=>exact .inl rfl
 | some b=>exact .inr fun e=>hv x b hx hu e.symm
theorem LM.set (h:LM w B mb n c v ls) {a:Addr} (u:Value) (hm:a.block≠mb) (hv:∀x,x<n->(v x).ownBlock≠some a.block):LM (w.setCell a u) B mb n c v ls :=
 h.grown (AA w a u) (fun e=>hm (Option.some.inj e)) fun x b hx e e2=>hv x hx (by rw[e,e2])
theorem LM.alloc (h:LM w B mb n c v ls) (o:Obj):LM (w.alloc o) B mb n c v ls:=h.grown (Lb w o none) (by simp) fun _ _ _ _=>by simp
theorem LM.drew (h:LM w B mb n c v ls):LM w.drew B mb n c v ls:=⟨h.map,h.nil,h.rows,h.apart,h.ne⟩
theorem LM.below (h:LM w B mb n c v ls) (hb:Below w.heap.size w w'):LM w' B mb n c v ls :=
 h.grown (row:=none) ⟨hb.os,hb.tape,hb.output,hb.size,fun k hk _=>hb.block k hk⟩ (by simp) fun _ _ _ _=>by simp
theorem LM.made (w:World) (B n:Nat):LM (w.alloc (.map #[] 0)) B w.heap.size n 0 (fun _=>.slice none 0 0) fun _=>[] :=
 ⟨⟨_,MapK.made w _ _ _,fun _ _=>(if_pos rfl).symm⟩,fun _ _ _=>rfl,fun _ _=>World.ownsRow_nil _ _ _ _,fun _ _ _ _ _ _ hb=>(by cases hb),fun _ _ h=>(by cases h)⟩
theorem RM (w:World):(zeroValue 26).run Tryz.prog w=.ok (.slice none 0 0) w:=by kernel_rfl
theorem LM.look (h:LM w B mb n c v ls) {x:Nat} (hx:x<n) (hn:n<=1000):(Instr.lookup 105 (.map (some mb)) (.int .i64 (x:Int)) false).run Tryz.prog w=.ok (v x) w:=by
 obtain⟨f,h1,h2⟩:=h.map;have:=h1.look F3 Tryz.underlying105 (RM w) (E5 Tryz.underlying3 (a:=(x:Int)) (by omega) (by omega));rw[this,h2 x hx]
 by_cases e:ls x=[]
 · rw[if_pos e,h.nil x hx e];rfl
 · rw[if_neg e];rfl
theorem LM.step (h:LM w B mb n c v ls) {x q:Nat} (hx:x<n) (hn:n<=1000) (hc:c<maxLen) {u:Value} (hg:w.grownBy w' (v x).ownBlock) (ho:w'.ownsRow B 3 1 u ((ls x).length+1) (BW (ls x)++[.int .i64 (q:Int)])) (hu:u.ownBlock=(v x).ownBlock∨u.ownBlock=some w.heap.size) :
 ∃w'',(Instr.mapUpdate 105 (.map (some mb)) (.int .i64 (x:Int)) u).run Tryz.prog w'=.ok () w''/\LM w'' B mb n (if ls x=[] then c+1 else c) (fun i=>if i=x then u else v i) (E8 ls x q)/\w'.grownBy w'' (some mb):=by
 obtain⟨f,h1,h2⟩:=h.map;have ae:some mb≠(v x).ownBlock:=fun e=>h.ne x hx e.symm;have aj:=h.lt
 have ah:u.ownBlock≠some mb:=fun e=>by
  rcases hu with hu | hu
  · exact ae (by rw[<-hu,e])
  · rw[e]at hu;simp only[Option.some.injEq]at hu;omega
 obtain⟨w'',ag,hM,aa⟩:=(h1.kept hg ae).put Gn F3 Tryz.underlying105 hc (E5 Tryz.underlying3 (a:=(x:Int)) (by omega) (by omega)) u
 have d:∀i,i<n->i≠x->TT (v i) u:=fun i hi ai b hb e=>by
  rcases hu with hu | hu
  · exact h.apart i x hi hx ai b hb (by rw[<-hu,e])
  · have:=((h.rows i hi).lt b hb).2;rw[e]at hu;simp only[Option.some.injEq]at hu;omega
 have af:E8 ls x q x≠[]:=by simp[E8]
 refine⟨w'',ag,⟨⟨OJ f (x:Int) (some u),?_,fun y hy=>?_⟩,fun y hy he=>?_,fun y hy=>?_,fun i j hi hj ad=>?_,fun y hy=>?_⟩,aa⟩
 · have e:(if (f (x:Int)).isSome then c else c+1)=if ls x=[] then c+1 else c:=by
    rw[h2 x hx]
    by_cases e:ls x=[]
    · rw[if_pos e,if_pos e];rfl
    · rw[if_neg e,if_neg e];rfl
   rw[e]at hM;exact hM
 · by_cases e:y=x
   · subst e;rw[Cb,if_neg af,if_pos rfl]
   · rw[BT (fun c=>e (by omega)),h2 y hy,if_neg e];have:E8 ls x q y=ls y:=if_neg e;rw[this]
 · by_cases e:y=x
   · subst e;exact absurd he af
   · rw[if_neg e];have:E8 ls x q y=ls y:=if_neg e;rw[this]at he;exact h.nil y hy he
 · by_cases e:y=x
   · subst e;rw[if_pos rfl];have:E8 ls y q y=ls y++[q]:=if_pos rfl;rw[this,List.length_append,F9];refine ho.kept aa ?_
     cases hv:u.ownBlock with
     | none=>exact .inl rfl
     | some b=>exact .inr fun c=>ah (by rw[hv,c])
   · rw [if_neg e];have:E8 ls x q y=ls y:=if_neg e;rw[this];refine((h.rows y hy).kept hg ?_).kept aa ?_
     · cases hv:(v y).ownBlock with
       | none=>exact .inl rfl
       | some b=>exact .inr fun c=>h.apart y x hy hx e b hv c.symm
     · cases hv:(v y).ownBlock with
       | none=>exact .inl rfl
       | some b=>exact .inr fun c=>h.ne y hy (by rw[hv,c])
 · by_cases e1:i=x
   · have e2:j≠x:=fun c=>ad (by rw[e1,c]);rw[if_pos e1,if_neg e2];exact fun b hb hc=>d j hj e2 b hc hb
   · rw[if_neg e1]
     by_cases e2:j=x
     · rw[if_pos e2];exact d i hi e1
     · rw[if_neg e2];exact h.apart i j hi hj ad
 · by_cases e:y=x
   · rw[if_pos e];exact ah
   · rw[if_neg e];exact h.ne y hy
theorem EH {W:World} {base n:Nat} {e:TypeId} {u:Value} {xs:List Value} (h:W.ownsRow base e 1 u n xs):∃A cap,u=.slice A n cap:=by
 rcases h.2 with⟨rfl,rfl⟩ | ⟨g,cap,_,rfl,_⟩
 · exact⟨none,0,rfl⟩
 · exact⟨_,cap,rfl⟩
theorem RN {xs:List Nat} {base m:Nat} {e:TypeId} {u:Value} {l:List Value} {w:World} (h:w.ownsRow base e 1 u m l) (hk:Kp xs w w') (hb:∀b,u.ownBlock=some b->b∉xs):w'.ownsRow base e 1 u m l:=by
 obtain⟨h1,h2⟩:=h;refine⟨h1,?_⟩
 rcases h2 with h2 | ⟨g,cap,cur,hv,hg,hh,rest⟩
 · exact .inl h2
 · exact .inr ⟨g,cap,cur,hv,hg,(hk.block g (Array.getElem?_eq_some_iff.1 hh).1 (hb g (by rw[hv];rfl))).trans hh,rest⟩
structure RoI (w:World) (b n:Nat) (o:Nat->Int):Prop where
 lt:b<w.heap.size
 cell:∀x,x<n->w.cell? ⟨b,x,none⟩=some (.int .i64 (o x))
 fr:∀x,w.frozen? ⟨b,x,none⟩=false
theorem RoI.of_block {o:Nat->Int} (h:RoI w b n o) (hs:w.heap.size<=w'.heap.size) (hb:w'.heap[b]? = w.heap[b]?):RoI w' b n o :=
 ⟨Nat.lt_of_lt_of_le h.lt hs,fun x hx=>(World.cell?_of_block (a:=⟨b,x,none⟩) hb).trans (h.cell x hx),fun x=>(World.frozen?_of_block (a:=⟨b,x,none⟩) hb).trans (h.fr x)⟩
theorem RoI.below {o:Nat->Int} (h:RoI w b n o) (hb:Below w.heap.size w w'):RoI w' b n o:=h.of_block hb.size (hb.block b h.lt)
theorem RoI.grown {o:Nat->Int} {row:Option Nat} (h:RoI w b n o) (hg:w.grownBy w' row) (hr:row≠some b):RoI w' b n o:=h.of_block hg.size (hg.block b h.lt fun e=>hr e.symm)
theorem RoI.alloc {o:Nat->Int} (h:RoI w b n o) (x:Obj):RoI (w.alloc x) b n o:=h.below ((Below.refl _ w).alloc (Nat.le_refl _) x)
theorem RoI.set {o:Nat->Int} (h:RoI w b n o) {x:Nat} (hx:x<n) (r:Int):RoI (w.setCell ⟨b,x,none⟩ (.int .i64 r)) b n (Fw o x r):=by
 refine⟨by simpa using h.lt,fun y hy=>?_,fun y=>by simpa using h.fr y⟩
 by_cases e:y=x
 · subst e;rw[Be];exact World.cell?_setCell_same _ _ _ (h.cell y hy)
 · rw[AJ e,World.cell?_setCell_other _ _ _ _ (fun c=>by injection c with _ c2;first | exact e c2 | exact e c2.symm)];exact h.cell y hy
theorem RoI.made (w:World) (n:Nat) (t:TypeId):RoI (w.alloc (.cells (madeCells #[.int .i64 0] n) t)) w.heap.size n fun _=>0:=by
 have h:=heap_alloc_new w (.cells (madeCells #[(.int .i64 0:Value)] n) t);refine⟨by simp,fun x hx=>?_,fun x=>by simp only[World.frozen?,h];simp⟩;simp only[World.cell?,h];simp[madeCells,hx];rw[Nat.mod_one];rfl
theorem RoI.of_row {r:Int} {t:TypeId} (h:w.heap[b]? = some (.cells (List.replicate n (.int .i64 r)).toArray t (0,0))):RoI w b n fun _=>r:=by
 refine⟨(Array.getElem?_eq_some_iff.1 h).1,fun x hx=>?_,fun x=>by simp[World.frozen?,h]⟩;simp[World.cell?,h,hx]
theorem RoI.congr {o o':Nat->Int} (h:RoI w b n o) (e:∀x,x<n->o x=o' x):RoI w b n o':=⟨h.lt,fun x hx=>by rw[<-e x hx];exact h.cell x hx,h.fr⟩
theorem RoI.inInt {o:Nat->Int} (h:RoI w b n o):InInt w (some ⟨b,0,none⟩) ((List.range n).map o):=fun _=>⟨b,0,rfl,h.lt,fun j hj=>by
 have a:j<n:=by simpa using hj
 rw[Nat.zero_add,h.cell j a];simp⟩
end
end Ci
end
section
open Go.RowKit Go.Shelf
namespace Sh
open Nt Ci
def MH (k:Nat):Code->Bool
 | .region a _ _=>a==k
 | _=>false
theorem NO (s x y:Rat) (hs:ShortQ s) (hx:ShortQ x) (hy:ShortQ y) (a:ShortQ (x*y)) (w:World) (hE:Env w) :
 Calls Tryz.prog 97 #[.agg #[.bool (rq s).1,.string (rq s).2.1,.string (rq s).2.2],.agg #[.bool (rq x).1,.string (rq x).2.1,.string (rq x).2.2],.agg #[.bool (rq y).1,.string (rq y).2.1,.string (rq y).2.2]] w fun e w'=>e=.returned (.agg #[.bool (rq (s+x*y)).1,.string (rq (s+x*y)).2.1,.string (rq (s+x*y)).2.2])/\Below w.heap.size w w' :=
 M7 s x y hs hx hy a w hE
noncomputable def bdR (j:Nat):Code:=((Tryz.f55.body.map Ci.B8).bind fun l=>l.find? (MH j)).getD .skip
theorem Wv {c0 c1 c2 c3 c4 c5 c7 c8 au av aw ax ay az aA aB aC aD aE aF aG aH aI aJ aK aL aM aN aO aP aQ aR aS aT aU aV aW aX aY aZ a0 a1 a2 a3 a4 a5 a6 a7 a8 a9 ba bb bd be bf bg bh bi bj bk bm bn bo bp bq br bs bt bu bv bw bx bz bA bB bC bD bE bF bG bH bI bJ bK bL ai aj ak al am an ao aq bM bN bO bP bQ bR bS bT bU bW bX:Value} {Q:Exit->Act->World->Prop} (mnb rb lb m k:Nat) (r:Nat->Raw) (q Ai:Rat) (c0v c1v:Value) (w:World) (hE:Env w) (hk:k<m) (_hm:m<=1000) (hr:RowB w rb m r) (b0:r k=rq q) (ae:Bk w mnb 40 [.bool (rq (-1)).1,.string (rq (-1)).2.1,.string (rq (-1)).2.2]) (hl:Bk w lb 59 [c0v,c1v,.bool (rq Ai).1,.string (rq Ai).2.1,.string (rq Ai).2.2]) (n1:rb≠mnb) (n2:rb≠lb) (h1:ShortQ q) (h2:ShortQ Ai) (h3:ShortQ (-1*Ai))
 (h:∀(u67 u68 u69 u70 u71 u72 u73 u74 u75 u76 u77:Value) (W:World) (_:Hid (RowB W rb m fun j=>if j=k then rq (q+-1*Ai) else r j)) (_:Hid (Kp [rb] w W)),Q .normal ⟨#[c0,c1,c2,c3,c4,c5,.pointer (some ⟨mnb,0,none⟩),c7,c8,.slice (some ⟨rb,0,none⟩) m m,au,av,aw,.pointer (some ⟨lb,0,none⟩),.int .i64 (k:Int),ax,ay,az,aA,aB,aC,aD,aE,aF,aG,aH,aI,aJ,aK,aL,aM,aN,aO,aP,aQ,aR,aS,aT,aU,aV,aW,aX,aY,aZ,a0,a1,a2,a3,a4,a5,a6,a7,a8,a9,ba,bb,bd,be,bf,bg,bh,bi,bj,bk,bm,bn,bo,u67,u68,u69,u70,u71,u72,u73,u74,u75,u76,u77,bp,bq,br,bs,bt,bu,bv,bw,bx,bz,bA,bB,bC,bD,bE,bF,bG,bH,bI,bJ,bK,bL,ai,aj,ak,al,am,an,ao,aq],[]⟩ W) :
 Code.wp Tryz.prog (bdR 19) Q ⟨#[c0,c1,c2,c3,c4,c5,.pointer (some ⟨mnb,0,none⟩),c7,c8,.slice (some ⟨rb,0,none⟩) m m,au,av,aw,.pointer (some ⟨lb,0,none⟩),.int .i64 (k:Int),ax,ay,az,aA,aB,aC,aD,aE,aF,aG,aH,aI,aJ,aK,aL,aM,aN,aO,aP,aQ,aR,aS,aT,aU,aV,aW,aX,aY,aZ,a0,a1,a2,a3,a4,a5,a6,a7,a8,a9,ba,bb,bd,be,bf,bg,bh,bi,bj,bk,bm,bn,bo,bM,bN,bO,bP,bQ,bR,bS,bT,bU,bW,bX,bp,bq,br,bs,bt,bu,bv,bw,bx,bz,bA,bB,bC,bD,bE,bF,bG,bH,bI,bJ,bK,bL,ai,aj,ak,al,am,an,ao,aq],[]⟩ w:=by
 conv=>arg 2;whnf
 conv=>arg 4;zeta
 replace h:=zh h;have ag:Hid (Below w.heap.size w w.drew):=(Below.refl _ w).drew;have kp:=zh (fun W hW=>NO q (-1) Ai h1 (by decide +kernel) h2 h3 W hW);have ar:Hid (RowB w.drew rb m r):=hr;have rl:=hr.lt;have ah:Hid (∀W,Below w.heap.size w W->W.cell? ⟨mnb,0,none⟩=some (.bool (rq (-1)).1)/\W.cell? ⟨mnb,1,none⟩=some (.string (rq (-1)).2.1)/\W.cell? ⟨mnb,2,none⟩=some (.string (rq (-1)).2.2)/\W.cell? ⟨lb,2,none⟩=some (.bool (rq Ai).1)/\W.cell? ⟨lb,3,none⟩=some (.string (rq Ai).2.1)/\W.cell? ⟨lb,4,none⟩=some (.string (rq Ai).2.2)):=fun W h=>⟨(ae.below h).c0,(ae.below h).c1,(ae.below h).c2,(hl.below h).c2,(hl.below h).c3,(hl.below h).c4⟩;have j0:(0:Int)<=(k:Int):=by omega
 have j1:(k:Int)<(m:Int):=by omega
 replace hE:=zh hE;replace hr:=zh hr;replace ae:=zh ae;replace hl:=zh hl;clear h1 h2 h3;refine wp_region_noPanic ?_;refine wp_region_held_drew (S:=fun W=>W.cell? ⟨mnb,0,none⟩=some (.bool (rq (-1)).1)/\W.cell? ⟨mnb,1,none⟩=some (.string (rq (-1)).2.1)/\W.cell? ⟨mnb,2,none⟩=some (.string (rq (-1)).2.2)/\W.cell? ⟨lb,2,none⟩=some (.bool (rq Ai).1)/\W.cell? ⟨lb,3,none⟩=some (.string (rq Ai).2.1)/\W.cell? ⟨lb,4,none⟩=some (.string (rq Ai).2.2)) (by kernel_rfl) (ah.out _ ag.out) (fun aa=>?_);replace aa:=zh aa;refine tkdF (v:=?_) 0 rfl (aa.out) (Or.inl ⟨by rfl,?_⟩) ?_;rotate_left
 · (intro w d;obtain⟨q1,q2,q3,q4,q5,q6⟩:=d;go_simp<;>with_reducible rfl)
 try simp only[Act.put,List.setIfInBounds_toArray]
 refine tkdF (v:=?_) 1 rfl (aa.out) (Or.inl ⟨by rfl,?_⟩) ?_;rotate_left
 · (intro w d;obtain⟨q1,q2,q3,q4,q5,q6⟩:=d;go_simp<;>with_reducible rfl)
 try simp only[Act.put]
 refine tkdF (v:=?_) 2 rfl (aa.out) (Or.inl ⟨by rfl,?_⟩) ?_;rotate_left
 · (intro w d;obtain⟨q1,q2,q3,q4,q5,q6⟩:=d;go_simp<;>with_reducible rfl)
 try simp only[Act.put]
 refine tkdF (v:=?_) 3 rfl (aa.out) (Or.inl ⟨by rfl,?_⟩) ?_;rotate_left
 · (intro w d;obtain⟨q1,q2,q3,q4,q5,q6⟩:=d;go_simp<;>with_reducible rfl)
 try simp only[Act.put]
 refine tkdF (v:=?_) 4 rfl (aa.out) (Or.inl ⟨by rfl,?_⟩) ?_;rotate_left
 · (intro w d;obtain⟨q1,q2,q3,q4,q5,q6⟩:=d;go_simp<;>with_reducible rfl)
 try simp only[Act.put]
 refine tkdF (v:=?_) 6 rfl (aa.out) (Or.inl ⟨by rfl,?_⟩) ?_;rotate_left
 · (intro w d;obtain⟨q1,q2,q3,q4,q5,q6⟩:=d;go_simp<;>with_reducible rfl)
 try simp only[Act.put]
 refine tkdF (v:=?_) 7 rfl (aa.out) (Or.inl ⟨by rfl,?_⟩) ?_;rotate_left
 · (intro w d;obtain⟨q1,q2,q3,q4,q5,q6⟩:=d;go_simp<;>with_reducible rfl)
 try simp only[Act.put]
 refine tkdF (v:=?_) 8 rfl (aa.out) (Or.inl ⟨by rfl,?_⟩) ?_;rotate_left
 · (intro w d;obtain⟨q1,q2,q3,q4,q5,q6⟩:=d;go_simp<;>with_reducible rfl)
 try simp only[Act.put]
 obtain⟨r1,r2,r3⟩:=ar.out.cell hk;rw[b0]at r1 r2 r3;have b1:=ar.out.lt;refine wpAnyH_ready (rs:=[5]) (by kernel_rfl) (by simp) ?_;refine AllReadyH.cons (o:=_) rfl (fun K hK=>?_) ?_
 · go_simp;clear r1 r2 r3;refine hK.out _ _ (ah.out _ ag.out) (fun _=>?_);clear hK K
   try simp only[Act.put,List.setIfInBounds_toArray,List.set_cons_zero,List.set_cons_succ]
   refine wpAnyH_ready (rs:=[9]) (by kernel_rfl) (by simp) ?_;refine AllReadyH.cons (o:=_) rfl (fun K hK=>?_) ?_
   · go_simp;refine(kp.out _ (hE.out.below ag.out)).mono ?_;rintro e W2 ⟨rfl,hb⟩;have ad:Hid (Below w.heap.size w W2):=ag.out.trans (hb.mono ag.out.size);have af:Hid (RowB W2 rb m r):=ar.out.below hb b1;clear hb;refine hK.out _ _ (ah.out _ ad.out) (fun _=>?_);clear hK K
     try simp only[Act.put,List.setIfInBounds_toArray,List.set_cons_zero,List.set_cons_succ]
     refine tkdF (v:=?_) 10 rfl (ah.out _ ad.out) (Or.inl ⟨by rfl,?_⟩) ?_;rotate_left
     · (intro w d;obtain⟨q1,q2,q3,q4,q5,q6⟩:=d;go_simp<;>with_reducible rfl)
     try simp only[Act.put,List.setIfInBounds_toArray]
     obtain⟨r1,r2,r3⟩:=af.out.cell hk;have f1:=af.out.frozen (k*3);have f2:=af.out.frozen (k*3+1);have f3:=af.out.frozen (k*3+2);have b2:=af.out.lt;have bZ:Hid (RowB (((W2.setCell ⟨rb,k*3,none⟩ (.bool (rq (q+-1*Ai)).1)).setCell ⟨rb,k*3+1,none⟩ (.string (rq (q+-1*Ai)).2.1)).setCell ⟨rb,k*3+2,none⟩ (.string (rq (q+-1*Ai)).2.2)) rb m fun j=>if j=k then rq (q+-1*Ai) else r j):=af.out.set hk _;have bY:Hid (Kp [rb] w (((W2.setCell ⟨rb,k*3,none⟩ (.bool (rq (q+-1*Ai)).1)).setCell ⟨rb,k*3+1,none⟩ (.string (rq (q+-1*Ai)).2.1)).setCell ⟨rb,k*3+2,none⟩ (.string (rq (q+-1*Ai)).2.2))):=((((Kp.refl [rb] w).below ad.out).set (a:=⟨rb,k*3,none⟩) _ (.inl (by simp))).set (a:=⟨rb,k*3+1,none⟩) _ (.inl (by simp))).set (a:=⟨rb,k*3+2,none⟩) _ (.inl (by simp));refine wpAnyH_ready (rs:=[11]) (by kernel_rfl) (by simp) ?_;refine AllReadyH.cons (o:=_) rfl (fun K hK=>?_) ?_
     · go_simp;refine hK.out _ _ (⟨((((ae.out.below ad.out).far (p:=⟨rb,k*3,none⟩) n1.symm _).far (p:=⟨rb,k*3+1,none⟩) n1.symm _).far (p:=⟨rb,k*3+2,none⟩) n1.symm _).c0,((((ae.out.below ad.out).far (p:=⟨rb,k*3,none⟩) n1.symm _).far (p:=⟨rb,k*3+1,none⟩) n1.symm _).far (p:=⟨rb,k*3+2,none⟩) n1.symm _).c1,((((ae.out.below ad.out).far (p:=⟨rb,k*3,none⟩) n1.symm _).far (p:=⟨rb,k*3+1,none⟩) n1.symm _).far (p:=⟨rb,k*3+2,none⟩) n1.symm _).c2,((((hl.out.below ad.out).far (p:=⟨rb,k*3,none⟩) n2.symm _).far (p:=⟨rb,k*3+1,none⟩) n2.symm _).far (p:=⟨rb,k*3+2,none⟩) n2.symm _).c2,((((hl.out.below ad.out).far (p:=⟨rb,k*3,none⟩) n2.symm _).far (p:=⟨rb,k*3+1,none⟩) n2.symm _).far (p:=⟨rb,k*3+2,none⟩) n2.symm _).c3,((((hl.out.below ad.out).far (p:=⟨rb,k*3,none⟩) n2.symm _).far (p:=⟨rb,k*3+1,none⟩) n2.symm _).far (p:=⟨rb,k*3+2,none⟩) n2.symm _).c4⟩) (fun _=>?_);clear hK K
       try simp only[Act.put,List.setIfInBounds_toArray,List.set_cons_zero,List.set_cons_succ]
       refine wpAnyH_done (by kernel_rfl) ?_ _;refine NoPanic.normal ?_;exact h.out _ _ _ _ _ _ _ _ _ _ _ _ bZ bY
     exact AllReadyH.nil
   exact AllReadyH.nil
 exact AllReadyH.nil
theorem Ww {c0 c1 c3 c4 c5 c6 c7 c8 c9 ax ay az aA aB aC aD aE aF aG aH aI aJ aK aL aM aN aO aP aQ aR aS aT aU aV aW aX aY aZ a0 a1 a2 a3 a4 a5 a6 a7 a8 a9 ba bb bd be bf bg bh bi bj bk bm bn bo bp bq br bs bt bu bv bw bx bz bA bB bC bD bE bF bG bH bI bJ bK bL bM bN bO bP bQ bR ak al am an ao aq ar au a78 a79 bS bT bU bW bX bY:Value} {Q:Exit->Act->World->Prop} (gb lb vb:Nat) (hh:Int) (r0 Ai v:Rat) (c0v:Value) (w:World) (hE:Env w) (hg:Bk w gb 40 [.bool (rq r0).1,.string (rq r0).2.1,.string (rq r0).2.2]) (hl:Bk w lb 59 [c0v,.int .i64 hh,.bool (rq Ai).1,.string (rq Ai).2.1,.string (rq Ai).2.2]) (n1:gb≠lb) (h1:ShortQ r0) (h2:ShortQ Ai) (h3:ShortQ v) (h4:ShortQ (Ai*v)) (kv:∀W,Below w.heap.size w W->Calls Tryz.prog 54 #[.int .i64 hh,.pointer (some ⟨vb,0,none⟩)] W fun e w'=>e=.returned (.agg #[.bool (rq v).1,.string (rq v).2.1,.string (rq v).2.2])/\Below W.heap.size W w')
 (h:∀(u78 u79 u80 u81 u82 u83 u84 u85:Value) (W:World) (_:Hid (Bk W gb 40 [.bool (rq (r0+Ai*v)).1,.string (rq (r0+Ai*v)).2.1,.string (rq (r0+Ai*v)).2.2])) (_:Hid (Kp [gb] w W)),Q .normal ⟨#[c0,c1,.func (.func 54) #[] #[.pointer (some ⟨vb,0,none⟩)],c3,c4,c5,c6,c7,c8,c9,ax,.pointer (some ⟨gb,0,none⟩),ay,.pointer (some ⟨lb,0,none⟩),az,aA,aB,aC,aD,aE,aF,aG,aH,aI,aJ,aK,aL,aM,aN,aO,aP,aQ,aR,aS,aT,aU,aV,aW,aX,aY,aZ,a0,a1,a2,a3,a4,a5,a6,a7,a8,a9,ba,bb,bd,be,bf,bg,bh,bi,bj,bk,bm,bn,bo,bp,bq,br,bs,bt,bu,bv,bw,bx,bz,bA,bB,bC,bD,u78,u79,u80,u81,u82,u83,u84,u85,bE,bF,bG,bH,bI,bJ,bK,bL,bM,bN,bO,bP,bQ,bR,ak,al,am,an,ao,aq,ar,au],[]⟩ W) :
 Code.wp Tryz.prog (bdR 20) Q ⟨#[c0,c1,.func (.func 54) #[] #[.pointer (some ⟨vb,0,none⟩)],c3,c4,c5,c6,c7,c8,c9,ax,.pointer (some ⟨gb,0,none⟩),ay,.pointer (some ⟨lb,0,none⟩),az,aA,aB,aC,aD,aE,aF,aG,aH,aI,aJ,aK,aL,aM,aN,aO,aP,aQ,aR,aS,aT,aU,aV,aW,aX,aY,aZ,a0,a1,a2,a3,a4,a5,a6,a7,a8,a9,ba,bb,bd,be,bf,bg,bh,bi,bj,bk,bm,bn,bo,bp,bq,br,bs,bt,bu,bv,bw,bx,bz,bA,bB,bC,bD,a78,a79,bS,bT,bU,bW,bX,bY,bE,bF,bG,bH,bI,bJ,bK,bL,bM,bN,bO,bP,bQ,bR,ak,al,am,an,ao,aq,ar,au],[]⟩ w:=by
 conv=>arg 2;whnf
 conv=>arg 4;zeta
 replace h:=zh h;have af:Hid (Below w.heap.size w w.drew):=(Below.refl _ w).drew;have kp:=zh (fun W hW=>NO r0 Ai v h1 h2 h3 h4 W hW);have aj:Hid (Bk w.drew gb 40 [.bool (rq r0).1,.string (rq r0).2.1,.string (rq r0).2.2]):=hg.below (Below.refl _ w).drew;have gl:=hg.lt;have ah:Hid (∀W,Below w.heap.size w W->W.cell? ⟨lb,1,none⟩=some (.int .i64 hh)/\W.cell? ⟨lb,2,none⟩=some (.bool (rq Ai).1)/\W.cell? ⟨lb,3,none⟩=some (.string (rq Ai).2.1)/\W.cell? ⟨lb,4,none⟩=some (.string (rq Ai).2.2)):=fun W hb=>⟨(hl.below hb).c1,(hl.below hb).c2,(hl.below hb).c3,(hl.below hb).c4⟩;replace hE:=zh hE;replace hg:=zh hg;replace hl:=zh hl;replace kv:=zh kv;clear h1 h2 h3 h4;refine wp_region_noPanic ?_;refine wp_region_held_drew (S:=fun W=>W.cell? ⟨lb,1,none⟩=some (.int .i64 hh)/\W.cell? ⟨lb,2,none⟩=some (.bool (rq Ai).1)/\W.cell? ⟨lb,3,none⟩=some (.string (rq Ai).2.1)/\W.cell? ⟨lb,4,none⟩=some (.string (rq Ai).2.2)) (by kernel_rfl) (ah.out _ af.out) (fun ag=>?_);replace ag:=zh ag;refine tkdF (v:=?_) 1 rfl (ag.out) (Or.inl ⟨by rfl,?_⟩) ?_;rotate_left
 · (intro w ae;obtain⟨q1,q2,q3,q4⟩:=ae;go_simp<;>with_reducible rfl)
 try simp only[Act.put,List.setIfInBounds_toArray]
 refine tkdF (v:=?_) 2 rfl (ag.out) (Or.inl ⟨by rfl,?_⟩) ?_;rotate_left
 · (intro w ae;obtain⟨q1,q2,q3,q4⟩:=ae;go_simp<;>with_reducible rfl)
 try simp only[Act.put]
 refine tkdF (v:=?_) 3 rfl (ag.out) (Or.inl ⟨by rfl,?_⟩) ?_;rotate_left
 · (intro w ae;obtain⟨q1,q2,q3,q4⟩:=ae;go_simp<;>with_reducible rfl)
 try simp only[Act.put]
 refine tkdF (v:=?_) 4 rfl (ag.out) (Or.inl ⟨by rfl,?_⟩) ?_;rotate_left
 · (intro w ae;obtain⟨q1,q2,q3,q4⟩:=ae;go_simp<;>with_reducible rfl)
 try simp only[Act.put]
 refine tkdF (v:=?_) 5 rfl (ag.out) (Or.inl ⟨by rfl,?_⟩) ?_;rotate_left
 · (intro w ae;obtain⟨q1,q2,q3,q4⟩:=ae;go_simp<;>with_reducible rfl)
 try simp only[Act.put]
 refine wpAnyH_ready (rs:=[0,6]) (by kernel_rfl) (by simp) ?_;have t1:=aj.out.c0;have t2:=aj.out.c1;have t3:=aj.out.c2;have t7:=aj.out.lt;refine AllReadyH.cons (o:=_) rfl (fun K hK=>?_) ?_
 · go_simp;clear t1 t2 t3 t7;refine hK.out _ _ (ah.out _ af.out) (fun _=>?_);clear hK K
   try simp only[Act.put,List.setIfInBounds_toArray,List.set_cons_zero,List.set_cons_succ]
   refine wpAnyH_ready (rs:=[6]) (by kernel_rfl) (by simp) ?_;refine AllReadyH.cons (o:=_) rfl (fun K hK=>?_) ?_
   · go_simp;refine(kv.out _ af.out).mono ?_;rintro e W2 ⟨rfl,hb⟩;have ad:Hid (Below w.heap.size w W2):=af.out.trans (hb.mono af.out.size);have ai:=zh (aj.out.below hb);clear hb;refine hK.out _ _ (ah.out _ ad.out) (fun _=>?_);clear hK K
     try simp only[Act.put,List.setIfInBounds_toArray,List.set_cons_zero,List.set_cons_succ]
     refine wpAnyH_ready (rs:=[7]) (by kernel_rfl) (by simp) ?_;refine AllReadyH.cons (o:=_) rfl (fun K hK=>?_) ?_
     · go_simp;refine(kp.out _ (hE.out.below ad.out)).mono ?_;rintro e W3 ⟨rfl,hb⟩;have aa:Hid (Below w.heap.size w W3):=ad.out.trans (hb.mono ad.out.size);have d:=zh (ai.out.below hb);clear hb;refine hK.out _ _ (ah.out _ aa.out) (fun _=>?_);clear hK K
       try simp only[Act.put,List.setIfInBounds_toArray,List.set_cons_zero,List.set_cons_succ]
       have aw:Hid (Bk (((W3.setCell ⟨gb,0,none⟩ (.bool (rq (r0+Ai*v)).1)).setCell ⟨gb,1,none⟩ (.string (rq (r0+Ai*v)).2.1)).setCell ⟨gb,2,none⟩ (.string (rq (r0+Ai*v)).2.2)) gb 40 [.bool (rq (r0+Ai*v)).1,.string (rq (r0+Ai*v)).2.1,.string (rq (r0+Ai*v)).2.2]):=((d.out.set 0 (.bool (rq (r0+Ai*v)).1)).set 1 (.string (rq (r0+Ai*v)).2.1)).set 2 (.string (rq (r0+Ai*v)).2.2);have av:Hid (Kp [gb] w (((W3.setCell ⟨gb,0,none⟩ (.bool (rq (r0+Ai*v)).1)).setCell ⟨gb,1,none⟩ (.string (rq (r0+Ai*v)).2.1)).setCell ⟨gb,2,none⟩ (.string (rq (r0+Ai*v)).2.2))):=((((Kp.refl [gb] w).below aa.out).set (a:=⟨gb,0,none⟩) _ (.inl (by simp))).set (a:=⟨gb,1,none⟩) _ (.inl (by simp))).set (a:=⟨gb,2,none⟩) _ (.inl (by simp));have t1:=d.out.c0;have t2:=d.out.c1;have t3:=d.out.c2;have t4:=d.out.frozen 0;have t5:=d.out.frozen 1;have t6:=d.out.frozen 2;have t7:=d.out.lt;refine wpAnyH_ready (rs:=[8]) (by kernel_rfl) (by simp) ?_;refine AllReadyH.cons (o:=_) rfl (fun K hK=>?_) ?_
       · go_simp;refine hK.out _ _ (⟨((((hl.out.below aa.out).far (p:=⟨gb,0,none⟩) n1.symm _).far (p:=⟨gb,1,none⟩) n1.symm _).far (p:=⟨gb,2,none⟩) n1.symm _).c1,((((hl.out.below aa.out).far (p:=⟨gb,0,none⟩) n1.symm _).far (p:=⟨gb,1,none⟩) n1.symm _).far (p:=⟨gb,2,none⟩) n1.symm _).c2,((((hl.out.below aa.out).far (p:=⟨gb,0,none⟩) n1.symm _).far (p:=⟨gb,1,none⟩) n1.symm _).far (p:=⟨gb,2,none⟩) n1.symm _).c3,((((hl.out.below aa.out).far (p:=⟨gb,0,none⟩) n1.symm _).far (p:=⟨gb,1,none⟩) n1.symm _).far (p:=⟨gb,2,none⟩) n1.symm _).c4⟩) (fun _=>?_);clear hK K
         try simp only[Act.put,List.setIfInBounds_toArray,List.set_cons_zero,List.set_cons_succ]
         refine wpAnyH_done (by kernel_rfl) ?_ _;refine NoPanic.normal ?_;exact h.out _ _ _ _ _ _ _ _ _ aw av
       exact AllReadyH.nil
     exact AllReadyH.nil
   exact AllReadyH.nil
 clear t1 t2 t3 t7;refine AllReadyH.cons (o:=_) rfl (fun K hK=>?_) ?_
 · go_simp;refine(kv.out _ af.out).mono ?_;rintro e W2 ⟨rfl,hb⟩;have ad:Hid (Below w.heap.size w W2):=af.out.trans (hb.mono af.out.size);have ai:=zh (aj.out.below hb);clear hb;refine hK.out _ _ (ah.out _ ad.out) (fun _=>?_);clear hK K
   try simp only[Act.put,List.setIfInBounds_toArray,List.set_cons_zero,List.set_cons_succ]
   refine wpAnyH_ready (rs:=[0]) (by kernel_rfl) (by simp) ?_;have t1:=ai.out.c0;have t2:=ai.out.c1;have t3:=ai.out.c2;have t7:=ai.out.lt;refine AllReadyH.cons (o:=_) rfl (fun K hK=>?_) ?_
   · go_simp;clear t1 t2 t3 t7;refine hK.out _ _ (ah.out _ ad.out) (fun _=>?_);clear hK K
     try simp only[Act.put,List.setIfInBounds_toArray,List.set_cons_zero,List.set_cons_succ]
     refine wpAnyH_ready (rs:=[7]) (by kernel_rfl) (by simp) ?_;refine AllReadyH.cons (o:=_) rfl (fun K hK=>?_) ?_
     · go_simp;refine(kp.out _ (hE.out.below ad.out)).mono ?_;rintro e W3 ⟨rfl,hb⟩;have aa:Hid (Below w.heap.size w W3):=ad.out.trans (hb.mono ad.out.size);have d:=zh (ai.out.below hb);clear hb;refine hK.out _ _ (ah.out _ aa.out) (fun _=>?_);clear hK K
       try simp only[Act.put,List.setIfInBounds_toArray,List.set_cons_zero,List.set_cons_succ]
       have aw:Hid (Bk (((W3.setCell ⟨gb,0,none⟩ (.bool (rq (r0+Ai*v)).1)).setCell ⟨gb,1,none⟩ (.string (rq (r0+Ai*v)).2.1)).setCell ⟨gb,2,none⟩ (.string (rq (r0+Ai*v)).2.2)) gb 40 [.bool (rq (r0+Ai*v)).1,.string (rq (r0+Ai*v)).2.1,.string (rq (r0+Ai*v)).2.2]):=((d.out.set 0 (.bool (rq (r0+Ai*v)).1)).set 1 (.string (rq (r0+Ai*v)).2.1)).set 2 (.string (rq (r0+Ai*v)).2.2);have av:Hid (Kp [gb] w (((W3.setCell ⟨gb,0,none⟩ (.bool (rq (r0+Ai*v)).1)).setCell ⟨gb,1,none⟩ (.string (rq (r0+Ai*v)).2.1)).setCell ⟨gb,2,none⟩ (.string (rq (r0+Ai*v)).2.2))):=((((Kp.refl [gb] w).below aa.out).set (a:=⟨gb,0,none⟩) _ (.inl (by simp))).set (a:=⟨gb,1,none⟩) _ (.inl (by simp))).set (a:=⟨gb,2,none⟩) _ (.inl (by simp));have t1:=d.out.c0;have t2:=d.out.c1;have t3:=d.out.c2;have t4:=d.out.frozen 0;have t5:=d.out.frozen 1;have t6:=d.out.frozen 2;have t7:=d.out.lt;refine wpAnyH_ready (rs:=[8]) (by kernel_rfl) (by simp) ?_;refine AllReadyH.cons (o:=_) rfl (fun K hK=>?_) ?_
       · go_simp;refine hK.out _ _ (⟨((((hl.out.below aa.out).far (p:=⟨gb,0,none⟩) n1.symm _).far (p:=⟨gb,1,none⟩) n1.symm _).far (p:=⟨gb,2,none⟩) n1.symm _).c1,((((hl.out.below aa.out).far (p:=⟨gb,0,none⟩) n1.symm _).far (p:=⟨gb,1,none⟩) n1.symm _).far (p:=⟨gb,2,none⟩) n1.symm _).c2,((((hl.out.below aa.out).far (p:=⟨gb,0,none⟩) n1.symm _).far (p:=⟨gb,1,none⟩) n1.symm _).far (p:=⟨gb,2,none⟩) n1.symm _).c3,((((hl.out.below aa.out).far (p:=⟨gb,0,none⟩) n1.symm _).far (p:=⟨gb,1,none⟩) n1.symm _).far (p:=⟨gb,2,none⟩) n1.symm _).c4⟩) (fun _=>?_);clear hK K
         try simp only[Act.put,List.setIfInBounds_toArray,List.set_cons_zero,List.set_cons_succ]
         refine wpAnyH_done (by kernel_rfl) ?_ _;refine NoPanic.normal ?_;exact h.out _ _ _ _ _ _ _ _ _ aw av
       exact AllReadyH.nil
     exact AllReadyH.nil
   exact AllReadyH.nil
 exact AllReadyH.nil
end Sh
end
end Go.Proofs.YtilodknkildkbaaGreatDoor

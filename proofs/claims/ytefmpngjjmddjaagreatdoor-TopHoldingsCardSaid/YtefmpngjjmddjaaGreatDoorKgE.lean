/- Parts of the proof. -/
import Derived.Laws.CopyOwn
import Derived.Test.YtefmpngjjmddjaaGreatDoorKgD
set_option maxHeartbeats 2000000
set_option maxRecDepth 100000
open Go.Proofs.Tryz
namespace Go.Proofs.YtefmpngjjmddjaaGreatDoor
section
namespace Nt
def Aq:Nat->(Nat->Rat)->Rat
 |0,_=>0
 |n+1,f=>Aq n f+f n
theorem As{n:Nat}{f g:Nat->Rat}(h:∀i,i<n->f i=g i):Aq n f=Aq n g:=by
 induction n with
 |zero=>rfl
 |succ n ih=>unfold Aq;rw[ih fun i hi=>h i (by omega),h n (by omega)]
theorem CA{n:Nat}{f:Nat->Rat}(h:∀i,i<n->f i=0):Aq n f=0:=by
 induction n with
 |zero=>rfl
 |succ n ih=>unfold Aq;rw[ih fun i hi=>h i (by omega),h n (by omega)];exact ws 0
theorem CB(n:Nat)(f g:Nat->Rat):Aq n (fun i=>f i+g i)=Aq n f+Aq n g:=by
 induction n with
 |zero=>exact(ws 0).symm
 |succ n ih=>unfold Aq;rw[ih];grind
theorem AW(n:Nat)(c:Rat)(f:Nat->Rat):Aq n (fun i=>c*f i)=c*Aq n f:=by
 induction n with
 |zero=>simp[Aq]
 |succ n ih=>unfold Aq;rw[ih];grind
theorem Ce{n k:Nat}(f:Nat->Rat)(hk:k<n)(h:∀i,i<n->i≠k->f i=0):Aq n f=f k:=by
 induction n with
 |zero=>omega
 |succ n ih=>
  unfold Aq
  by_cases e:k=n
  .subst e;rw[CA fun i hi=>h i (by omega) (by omega)];grind
  rw[ih (by omega) fun i hi=>h i (by omega),h n (by omega) (by omega)];grind
abbrev Mx:=Nat->Nat->Rat
def Sol(n:Nat)(M:Mx)(y r:Nat->Rat):Prop:=∀i,i<n->Aq n (fun j=>M i j*y j)=r i
def VQ(n:Nat)(M:Mx):Prop:=∀r,∃y,Sol n M y r
def Pk(n:Nat)(M:Mx):Prop:=∀y,Sol n M y (fun _=>0)->∀i,i<n->y i=0
def Rel(n:Nat)(M M':Mx):Prop:=∃E:(Nat->Rat)->(Nat->Rat),(∀r s,(∀i,i<n->r i=s i)->∀i,i<n->E r i=E s i)/\(∀y r,Sol n M y r<->Sol n M' y (E r))/\(∀i,i<n->E (fun _=>0) i=0)/\(∀i,i<n->E (fun i=>M i n) i=M' i n)
theorem Sol.congr{n:Nat}{M:Mx}{y r s:Nat->Rat}(h:Sol n M y r)(e:∀i,i<n->r i=s i):Sol n M y s:=fun i hi=>(h i hi).trans (e i hi)
theorem Rel.refl(n:Nat)(M:Mx):Rel n M M:=⟨fun r=>r,fun _ _ h=>h,fun _ _=>wB,fun _ _=>rfl,fun _ _=>rfl⟩
def By(k p:Nat)(M:Mx):Mx:=fun i=>if i=k then M p else if i=p then M k else M i
def Bn(k:Nat)(M:Mx):Mx:=fun i j=>if i=k/\k<=j then M k j/M k k else M i j
def Dq(k i0:Nat)(M:Mx):Mx:=fun i j=>if i=i0/\k<=j then M i0 j-M i0 k*M k j else M i j
theorem R7{n k p:Nat}(M:Mx)(hk:k<n)(hp:p<n):Rel n M (By k p M):=by
 refine⟨fun r i=>if i=k then r p else if i=p then r k else r i,?_,?_,?_,?_⟩
 .intro r s h i hi;simp only[h p hp,h k hk,h i hi]
 .intro y r;constructor
  .intro h i hi;unfold By
   by_cases e1:i=k
   .simp only[e1,wm];exact h p hp
   by_cases e2:i=p
   .simp only[zC e1,zD e2];exact h k hk
   simp only[zC e1,zC e2];exact h i hi
  intro h i hi;unfold By at h
  by_cases e1:i=k
  .have h2:=h p hp
   by_cases e3:p=k
   .simp only[zD e3]at h2;rw[e1,<-e3];exact h2
   simp only[zC e3,wm]at h2;rw[e1];exact h2
  by_cases e2:i=p
  .have h2:=h k hk;simp only[wm]at h2;rw[e2];exact h2
  have h2:=h i hi;simp only[zC e1,zC e2]at h2;exact h2
 .intro i _;simp
 intro i _;unfold By
 by_cases e1:i=k
 .simp only[zD e1]
 by_cases e2:i=p
 .simp only[zC e1,zD e2]
 simp only[zC e1,zC e2]
def R8(k i:Nat)(M:Mx):Prop:=∀j,j<k->M i j=0
theorem Uk{n k:Nat}(M:Mx)(hk:k<n)(h0:M k k≠0)(hz:R8 k k M):Rel n M (Bn k M):=by
 have key:∀y:Nat->Rat,Aq n (fun j=>Bn k M k j*y j)=(M k k)⁻¹*Aq n (fun j=>M k j*y j):=by
  intro y;rw[<-AW];apply As;intro j _;unfold Bn
  by_cases e:k<=j
  .rw[zD ⟨rfl,e⟩,wW];grind
  rw[zC (fun h=>e h.2),hz j (by omega)];grind
 have other:∀i,i≠k->Bn k M i=M i:=by
  intro i hi
  funext j
  unfold Bn;rw[zC (fun h=>hi h.1)]
 refine⟨fun r i=>if i=k then r k/M k k else r i,?_,?_,?_,?_⟩
 .intro r s h i hi;simp only[h k hk,h i hi]
 .intro y r;constructor
  .intro h i hi
   by_cases e:i=k
   .subst e;rw[key,h i hi];dsimp only;rw[zD rfl,wW,vM]
   rw[other i e];dsimp only;rw[zC e];exact h i hi
  intro h i hi
  by_cases e:i=k
  .subst e;have h2:=h i hi;rw[key]at h2;dsimp only at h2;rw[zD rfl,wW,vM (r i)]at h2;have h3:=congrArg (fun t=>M i i*t) h2;simp only[<-Rat.mul_assoc,xk _ h0,wG]at h3;exact h3
  have h2:=h i hi;rw[other i e]at h2;dsimp only at h2;rw[zC e]at h2;exact h2
 .intro i _
  by_cases e:i=k
  .simp only[zD e];rw[wW,vN]
  simp only[zC e]
 intro i _;unfold Bn;dsimp only
 by_cases e:i=k
 .rw[zD e,zD ⟨e,by omega⟩]
 rw[zC e,zC fun h=>e h.1]
theorem Ul{n k i0:Nat}(M:Mx)(hk:k<n)(aa:i0<n)(d:i0≠k)(hz:R8 k k M):Rel n M (Dq k i0 M):=by
 have key:∀y:Nat->Rat,Aq n (fun j=>Dq k i0 M i0 j*y j)=Aq n (fun j=>M i0 j*y j)-M i0 k*Aq n (fun j=>M k j*y j):=by
  intro y
  have e1:Aq n (fun j=>Dq k i0 M i0 j*y j)=Aq n (fun j=>M i0 j*y j+(- M i0 k)*(M k j*y j)):=by
   apply As;intro j _;unfold Dq
   by_cases e:k<=j
   .rw[zD ⟨rfl,e⟩];grind
   rw[zC (fun h=>e h.2),hz j (by omega)];grind
  rw[e1,CB,AW];grind
 have other:∀i,i≠i0->Dq k i0 M i=M i:=by
  intro i hi
  funext j
  unfold Dq;rw[zC (fun h=>hi h.1)]
 refine⟨fun r i=>if i=i0 then r i0-M i0 k*r k else r i,?_,?_,?_,?_⟩
 .intro r s h i hi;simp only[h k hk,h i hi,h i0 aa]
 .intro y r;constructor
  .intro h i hi
   by_cases e:i=i0
   .subst e;rw[key,h i hi,h k hk];dsimp only;rw[zD rfl]
   rw[other i e];dsimp only;rw[zC e];exact h i hi
  intro h i hi
  by_cases e:i=i0
  .subst e;have h2:=h i hi;have h3:=h k hk;rw[key]at h2;dsimp only at h2;rw[zD rfl]at h2;rw[other k (fun e=>d e.symm)]at h3;dsimp only at h3;rw[zC (fun e=>d e.symm)]at h3;rw[h3]at h2;grind
  have h2:=h i hi;rw[other i e]at h2;dsimp only at h2;rw[zC e]at h2;exact h2
 .intro i _
  by_cases e:i=i0
  .simp only[zD e];grind
  simp only[zC e]
 intro i _;unfold Dq;dsimp only
 by_cases e:i=i0
 .rw[zD e,zD ⟨e,by omega⟩]
 rw[zC e,zC fun h=>e h.1]
theorem Rel.trans{n:Nat}{A B C:Mx}(h1:Rel n A B)(h2:Rel n B C):Rel n A C:=by
 obtain⟨E,e1,e2,e3,e4⟩:=h1;obtain⟨F,f1,f2,f3,f4⟩:=h2;refine⟨fun r=>F (E r),fun r s h=>f1 _ _ (e1 r s h),fun y r=>(e2 y r).trans (f2 y (E r)),?_,?_⟩
 .intro i hi;exact(f1 _ (fun _=>0) e3 i hi).trans (f3 i hi)
 intro i hi;exact(f1 _ (fun i=>B i n) e4 i hi).trans (f4 i hi)
def Unit(n k:Nat)(M:Mx):Prop:=∀i j,i<n->j<k->M i j=if i=j then 1 else 0
theorem Unit.zeros{n k i:Nat}{M:Mx}(h:Unit n k M)(hi:i<n)(hk:k<=i):R8 k i M:=fun j hj=>by rw[h i j hi hj,zC (by omega)]
theorem R9{n k:Nat}{M0 M:Mx}(h:Rel n M0 M)(hu:Unit n k M)(hk:k<n)(hz:∀i,k<=i->i<n->M i k=0):¬Pk n M0:=by
 intro ht;obtain⟨E,e1,e2,e3,e4⟩:=h
 have hs:Sol n M (fun j=>if j<k then-M j k else if j=k then 1 else 0) (fun _=>0):=by
  intro i hi
  by_cases hik:i<k
  .have e:Aq n (fun j=>M i j*(if j<k then-M j k else if j=k then 1 else 0))=Aq n (fun j=>if j=i then-M i k else 0)+Aq n (fun j=>if j=k then M i k else 0):=by
    rw[<-CB];apply As;intro j hj
    by_cases h1:j<k
    .rw[hu i j hi h1,zD h1,zC (show ¬j=k by omega)]
     by_cases h2:i=j
     .subst h2;rw[zD rfl,zD rfl];grind
     rw[zC h2,zC (fun e=>h2 e.symm)];grind
    rw[zC h1,zC (show ¬j=i by omega)]
    by_cases h2:j=k
    .subst h2;rw[zD rfl,zD rfl];grind
    rw[zC h2,zC h2];grind
   rw[e,Ce (k:=i) _ hi (fun j _ h=>zC h),Ce (k:=k) _ hk (fun j _ h=>zC h),zD rfl,zD rfl];grind
  refine CA ?_;intro j hj
  by_cases h1:j<k
  .rw[hu i j hi h1,zC (by omega)];grind
  dsimp only;rw[zC h1]
  by_cases h2:j=k
  .subst h2;rw[hz i (by omega) hi];grind
  rw[zC h2];grind
 have h0:Sol n M0 (fun j=>if j<k then-M j k else if j=k then 1 else 0) (fun _=>0):=(e2 _ _).2 (hs.congr fun i hi=>(e3 i hi).symm);have:=ht _ h0 k hk;simp at this
theorem RB{n:Nat}{M0 M:Mx}(h:Rel n M0 M)(hu:Unit n n M):(∀y,Sol n M0 y (fun i=>M0 i n)<->∀i,i<n->y i=M i n)/\Pk n M0/\VQ n M0:=by
 obtain⟨E,e1,e2,e3,e4⟩:=h
 have key:∀y r,Sol n M y r<->∀i,i<n->y i=r i:=by
  intro y r
  have hs:∀i,i<n->Aq n (fun j=>M i j*y j)=y i:=by
   intro i hi;rw[Ce (k:=i) _ hi (fun j hj h=>by rw[hu i j hi hj,zC (fun e=>h e.symm)];grind),hu i i hi hi,if_pos rfl,Rat.one_mul]
  exact⟨fun h i hi=>(hs i hi).symm.trans (h i hi),fun h i hi=>(hs i hi).trans (h i hi)⟩
 refine⟨fun y=>?_,?_,?_⟩
 .rw[e2,key];exact⟨fun h i hi=>(h i hi).trans (e4 i hi),fun h i hi=>(h i hi).trans (e4 i hi).symm⟩
 .intro y h i hi;have:=(key _ _).1 ((e2 _ _).1 h) i hi;rw[this,e3 i hi]
 intro r;exact⟨E r,(e2 _ _).2 ((key _ _).2 fun _ _=>rfl)⟩
theorem Pm{n k p:Nat}{M:Mx}(h:Unit n k M)(hk:k<n)(hp:p<n)(d:k<=p):Unit n k (By k p M):=by
 intro i j hi hj;unfold By
 by_cases e1:i=k
 .simp only[zD e1];rw[h p j hp hj,zC (by omega),zC (by omega)]
 by_cases e2:i=p
 .simp only[zC e1,zD e2];rw[h k j hk hj,zC (by omega),zC (by omega)]
 simp only[zC e1,zC e2];exact h i j hi hj
theorem RC{n k:Nat}{M:Mx}(h:Unit n k M):Unit n k (Bn k M):=by
 intro i j hi hj;unfold Bn;rw[zC (by omega)];exact h i j hi hj
theorem RD{n k i0:Nat}{M:Mx}(h:Unit n k M):Unit n k (Dq k i0 M):=by
 intro i j hi hj;unfold Dq;rw[zC (by omega)];exact h i j hi hj
def CP(n k:Nat)(M:Mx):Nat->Option Nat
 |0=>none
 |f+1=>if M (n-(f+1)) k=0 then CP n k M f else some (n-(f+1))
theorem FC{n k p:Nat}{M:Mx}:∀{f:Nat},f<=n->CP n k M f=some p->n-f<=p/\p<n/\M p k≠0/\∀i,n-f<=i->i<p->M i k=0:=by
 intro f
 induction f with
 |zero=>intro _ h;cases h
 |succ f ih=>
  intro hf h;unfold CP at h
  by_cases h0:M (n-(f+1)) k=0
  .rw[zD h0]at h;obtain⟨a,b,c,d⟩:=ih (by omega) h;refine⟨by omega,b,c,fun i h1 h2=>?_⟩
   by_cases e:i=n-(f+1)
   .rw[e];exact h0
   exact d i (by omega) h2
  rw[zC h0]at h
  cases h
  exact⟨by omega,by omega,h0,fun i h1 h2=>absurd h1 (by omega)⟩
theorem ML{n k:Nat}{M:Mx}:∀{f:Nat},f<=n->CP n k M f=none->∀i,n-f<=i->i<n->M i k=0:=by
 intro f
 induction f with
 |zero=>intro _ _ i h1 h2;omega
 |succ f ih=>
  intro hf h i h1 h2;unfold CP at h
  by_cases h0:M (n-(f+1)) k=0
  .rw[zD h0]at h
   by_cases e:i=n-(f+1)
   .rw[e];exact h0
   exact ih (by omega) h i (by omega) h2
  rw[zC h0]at h;cases h
theorem Ic{n k p:Nat}{M:Mx}:∀{f:Nat},f<=n->n-f<=p->p<n->M p k≠0->(∀i,n-f<=i->i<p->M i k=0)->CP n k M f=some p:=by
 intro f
 induction f with
 |zero=>intro _ h1 h2;omega
 |succ f ih=>
  intro hf h1 h2 h3 h4;unfold CP
  by_cases e:p=n-(f+1)
  .subst e;rw[zC h3]
  rw[zD (h4 _ (zB _) (by omega))];exact ih (by omega) (by omega) h2 h3 fun i a b=>h4 i (by omega) b
theorem RE{n k:Nat}{M:Mx}:∀{f:Nat},f<=n->(∀i,n-f<=i->i<n->M i k=0)->CP n k M f=none:=by
 intro f
 induction f with
 |zero=>intros;rfl
 |succ f ih=>
  intro hf h;unfold CP;rw[zD (h _ (zB _) (by omega))];exact ih (by omega) fun i a b=>h i (by omega) b
variable (S:Rat->Bool)
def Idq(n k:Nat)(M:Mx):Bool:=(List.range (n+1)).all fun j=>decide (j<k)||(S (M k j)&&S (M k k))
def Ie(n k i:Nat)(M:Mx):Bool:=(List.range (n+1)).all fun j=>decide (j<k)||(S (M i k)&&S (M k j)&&S (M i j)&&S (M i k*M k j))
def BL(n k i:Nat)(M:Mx):Option Mx:=if i=k\/M i k=0 then some M else if Ie S n k i M=true then some (Dq k i M) else none
def AL(n k:Nat):Nat->Mx->Option Mx
 |0,M=>some M
 |i+1,M=>(AL n k i M).bind (BL S n k i)
def CQ(n k:Nat)(M:Mx):Except Int Mx :=
 match CP n k M (n-k) with
 |none=>.error 12
 |some p=>if Idq S n k (By k p M)=true then (match AL S n k n (Bn k (By k p M)) with|some M'=>.ok M' | none=>.error 2) else .error 2
def AA(n:Nat):Nat->Mx->Except Int Mx
 |0,M=>.ok M
 |k+1,M=>(AA n k M).bind (CQ S n k)
theorem Fb{n k:Nat}{M:Mx}:Idq S n k M=true<->∀j,k<=j->j<=n->S (M k j)=true/\S (M k k)=true:=by
 unfold Idq;simp only[wM,List.mem_range,Bool.or_eq_true,yG,zq];constructor
 .intro h j h1 h2
  rcases h j (by omega) with h3|h3
  .omega
  exact h3
 intro h j h1
 rcases wn j k with h2|h2
 .exact .inl h2
 exact .inr (h j h2 (by omega))
theorem Fc{n k i:Nat}{M:Mx}:Ie S n k i M=true<->∀j,k<=j->j<=n->S (M i k)=true/\S (M k j)=true/\S (M i j)=true/\S (M i k*M k j)=true:=by
 unfold Ie;simp only[wM,List.mem_range,Bool.or_eq_true,yG,zq];constructor
 .intro h j h1 h2
  rcases h j (by omega) with h3|h3
  .omega
  exact⟨h3.1.1.1,h3.1.1.2,h3.1.2,h3.2⟩
 intro h j h1
 rcases wn j k with h2|h2
 .exact .inl h2
 have h3:=h j h2 (by omega);exact .inr ⟨⟨⟨h3.1,h3.2.1⟩,h3.2.2.1⟩,h3.2.2.2⟩
variable {S:Rat->Bool}
theorem MM{n k:Nat}{M:Mx}(hk:k<n)(hu:Unit n k M)(h1:M k k=1):∀{i:Nat} {M':Mx},i<=n->AL S n k i M=some M'->Rel n M M'/\Unit n k M'/\(∀j,M' k j=M k j)/\(∀i',i'<i->i'≠k->M' i' k=0):=by
 intro i
 induction i with
 |zero=>
  intro M' _ h
  cases h
  exact⟨Rel.refl _ _,hu,fun _=>rfl,fun i' h=>absurd h (by omega)⟩
 |succ i ih=>
  intro M' hi h;unfold AL at h
  cases he:AL S n k i M with
  |none=>rw[he]at h;cases h
  |some M2=>
   rw[he]at h;obtain⟨r,u,d,hz⟩:=ih (by omega) he;have h':BL S n k i M2=some M':=h;unfold BL at h'
   by_cases c1:i=k\/M2 i k=0
   .rw [zD c1]at h'
    cases h'
    refine⟨r,u,d,fun i' a b=>?_⟩
    by_cases e:i'=i
    .subst e
     rcases c1 with c|c
     .exact absurd c b
     exact c
    exact hz i' (by omega) b
   rw[zC c1]at h'
   by_cases c2:Ie S n k i M2=true
   .rw [zD c2]at h'
    cases h'
    have aa:i≠k:=fun e=>c1 (.inl e);refine⟨r.trans (Ul M2 hk (by omega) aa (u.zeros hk (zB _))),RD u,fun j=>?_,fun i' a b=>?_⟩
    .unfold Dq;rw[zC fun h=>aa h.1.symm];exact d j
    by_cases e:i'=i
    .subst e;unfold Dq;rw[zD ⟨rfl,zB _⟩,d,h1];grind
    unfold Dq;rw[zC fun h=>e h.1];exact hz i' (by omega) b
   rw[zC c2]at h';cases h'
theorem Pn{n k:Nat}{M M':Mx}(hk:k<n)(hu:Unit n k M)(h:CQ S n k M=.ok M'):Rel n M M'/\Unit n (k+1) M':=by
 unfold CQ at h
 cases hp:CP n k M (n-k) with
 |none=>rw[hp]at h;cases h
 |some p=>
  rw[hp]at h;obtain⟨a,b,c,_⟩:=FC (by omega) hp;have u1:=Pm hu hk b (by omega:k<=p);have c1:By k p M k k≠0:=by unfold By;rw[zD rfl];exact c
  have r1:=(R7 M hk b).trans (Uk _ hk c1 (u1.zeros hk (zB _)));have u2:=RC u1
  have d1:Bn k (By k p M) k k=1:=by
   unfold Bn;rw[zD ⟨rfl,zB _⟩,wW,xk _ c1]
  dsimp only at h
  split at h
  .cases he:AL S n k n (Bn k (By k p M)) with
   |none=>rw[he]at h;cases h
   |some M2=>
    rw[he]at h
    cases h
    obtain⟨r,u,d,hz⟩:=MM hk u2 d1 (zB n) he;refine⟨r1.trans r,fun i j hi hj=>?_⟩
    by_cases e:j=k
    .subst e
     by_cases e2:i=j
     .rw[zD e2,e2,d,d1]
     rw[zC e2];exact hz i hi e2
    exact u i j hi (by omega)
  cases h
theorem GR{n:Nat}{M:Mx}:∀{k:Nat} {M':Mx},k<=n->AA S n k M=.ok M'->Rel n M M'/\Unit n k M':=by
 intro k
 induction k with
 |zero=>
  intro M' _ h
  cases h
  exact⟨Rel.refl _ _,fun i j _ hj=>absurd hj (by omega)⟩
 |succ k ih=>
  intro M' hk h;unfold AA at h
  cases hs:AA S n k M with
  |error e=>rw[hs]at h;cases h
  |ok M2=>
   rw[hs]at h;obtain⟨r,u⟩:=ih (by omega) hs;obtain⟨r2,u2⟩:=Pn (by omega) u h;exact⟨r.trans r2,u2⟩
theorem Po{n k:Nat}{M:Mx}{e:Int}(h:CQ S n k M=.error e):(e=12/\CP n k M (n-k)=none)\/e=2:=by
 unfold CQ at h
 cases hp:CP n k M (n-k) with
 |none=>rw[hp]at h;cases h;exact .inl ⟨rfl,rfl⟩
 |some p=>
  rw[hp]at h;dsimp only at h
  split at h
  .split at h
   .cases h
   cases h;exact .inr rfl
  cases h;exact .inr rfl
theorem MN{n:Nat}{M:Mx}:(∃M',AA S n n M=.ok M'/\(∀y,Sol n M y (fun i=>M i n)<->∀i,i<n->y i=M' i n)/\Pk n M/\VQ n M)\/(AA S n n M=.error 12/\¬Pk n M)\/AA S n n M=.error 2:=by
 have key:∀k,k<=n->∀e,AA S n k M=.error e->(e=12/\¬Pk n M)\/e=2:=by
  intro k
  induction k with
  |zero=>intro _ e h;cases h
  |succ k ih=>
   intro hk e h;unfold AA at h
   cases hs:AA S n k M with
   |error e' =>
    rw[hs]at h;have:e'=e:=by cases h;rfl
    subst this;exact ih (by omega) e' hs
   |ok M2=>
    rw[hs]at h;obtain⟨r,u⟩:=GR (by omega) hs
    rcases Po h with⟨h1,h2⟩|h1
    .refine .inl ⟨h1,R9 r u (by omega) fun i a b=>?_⟩;exact ML (by omega) h2 i (by omega) b
    .exact .inr h1
 cases hs:AA S n n M with
 |ok M' =>
  obtain⟨r,u⟩:=GR (zB n) hs;exact .inl ⟨M',rfl,RB r u⟩
 |error e=>
  rcases key n (zB n) e hs with⟨h1,h2⟩|h1
  .exact .inr (.inl ⟨by rw[h1],h2⟩)
  exact .inr (.inr (by rw[h1]))
section laws
variable {S:Rat->Bool} {n:Nat}
theorem VR{M M':Mx}(h:AA S n n M=.ok M'):(∀y,Sol n M y (fun i=>M i n)<->∀i,i<n->y i=M' i n)/\Pk n M/\VQ n M:=by
 rcases MN (S:=S) (n:=n) (M:=M) with⟨M2,h1,h2⟩|⟨h1,_⟩|h1
 .rw[h]at h1;cases h1;exact h2
 .rw[h]at h1;cases h1
 rw[h]at h1;cases h1
end laws
end Nt
end
section
open Go.RowKit Go.Shelf
namespace Nt
abbrev Raw:=Bool×ByteArray×ByteArray
def ED(x:Raw):List Value:=[.bool x.1,.string x.2.1,.string x.2.2]
def rq(q:Rat):Raw:=(decide (q.num<0),T (some q.num.natAbs),T (some q.den))
def AN(m:Nat)(r:Nat->Raw):List Value:=(List.range m).flatMap fun j=>ED (r j)
theorem AE(m:Nat)(r:Nat->Raw):(AN m r).length=m*3:=by
 unfold AN
 induction m with
 |zero=>rfl
 |succ m ih=>rw[xi,List.flatMap_append,zV,ih];simp[ED];omega
theorem BU(m:Nat)(r:Nat->Raw):AN (m+1) r=AN m r++ED (r m):=by
 unfold AN;rw[xi,List.flatMap_append];simp
theorem CJ{m j:Nat}(r:Nat->Raw)(hj:j<m)(c:Nat)(hc:c<3):(AN m r)[j*3+c]? = (ED (r j))[c]?:=by
 induction m with
 |zero=>omega
 |succ m ih=>
  rw[BU]
  by_cases e:j=m
  .subst e;rw[List.getElem?_append_right (by rw[AE];omega),AE]
   congr 1
   omega
  rw[xO (by rw[AE];omega)];exact ih (by omega)
theorem FD{m:Nat}{r s:Nat->Raw}(h:∀j,j<m->r j=s j):AN m r=AN m s:=by
 induction m with
 |zero=>rfl
 |succ m ih=>rw[BU,BU,ih fun j hj=>h j (by omega),h m (by omega)]
theorem RF{m j:Nat}(r:Nat->Raw)(hj:j<m)(x:Raw):
 (((AN m r).set (j*3) (.bool x.1)).set (j*3+1) (.string x.2.1)).set (j*3+2) (.string x.2.2)=AN m (fun i=>if i=j then x else r i):=by
 induction m with
 |zero=>omega
 |succ m ih=>
  rw[BU,BU]
  by_cases e:j=m
  .subst e;have hl:=AE j r;rw[List.set_append_right _ _ (by omega),List.set_append_right _ _ (by omega),List.set_append_right _ _ (by omega)];rw[hl,show j*3-j*3=0 by omega,show j*3+1-j*3=1 by omega,show j*3+2-j*3=2 by omega,zD rfl];rw[FD (m:=j) (r:=r) (s:=fun i=>if i=j then x else r i) fun i hi=>(zC (by omega)).symm];rfl
  have hl:=AE m r;rw[List.set_append_left _ _ (by omega),List.set_append_left _ _ (by rw[List.length_set];omega),List.set_append_left _ _ (by rw[List.length_set,List.length_set];omega),ih (by omega),zC (fun h=>e h.symm)]
def RowB(W:World)(b m:Nat)(r:Nat->Raw):Prop:=W.heap[b]? = some (.cells (AN m r).toArray 48 (0,0))
section
variable {W W':World} {b m:Nat} {r:Nat->Raw}
theorem RowB.lt(h:RowB W b m r):b<W.heap.size:=(Array.getElem?_eq_some_iff.1 h).1
theorem RowB.cell(h:RowB W b m r){j:Nat}(hj:j<m):
 W.cell? ⟨b,j*3,none⟩=some (.bool (r j).1)/\W.cell? ⟨b,j*3+1,none⟩=some (.string (r j).2.1)/\W.cell? ⟨b,j*3+2,none⟩=some (.string (r j).2.2):=by
 have hc:∀c,W.cell? ⟨b,c,none⟩=(AN m r)[c]?:=fun c=>by unfold RowB at h;simp[World.cell?,h]
 rw[hc,hc,hc];have h0:=CJ r hj 0 (by omega);have h1:=CJ r hj 1 (by omega);have h2:=CJ r hj 2 (by omega);exact⟨h0,h1,h2⟩
theorem RowB.frozen(h:RowB W b m r)(o:Nat):W.frozen? ⟨b,o,none⟩=false:=by
 unfold RowB at h;simp[World.frozen?,h]
theorem RowB.congr(h:RowB W b m r){s:Nat->Raw}(e:∀j,j<m->r j=s j):RowB W b m s:=by
 unfold RowB at h ⊢;rw[h,FD e]
theorem RowB.alloc(h:RowB W b m r)(o:Obj):RowB (W.alloc o) b m r:=(yM W o b h.lt).trans h
theorem RowB.drew(h:RowB W b m r):RowB W.drew b m r:=h
theorem RowB.far(h:RowB W b m r){p:Addr}(hp:b≠p.block)(v:Value):RowB (W.setCell p v) b m r:=(ze _ _ _ _ hp).trans h
theorem RowB.below{B:Nat}(h:RowB W b m r)(hb:Below B W W')(hl:b<B):RowB W' b m r:=(hb.block b hl).trans h
theorem RowB.grown{row:Option Nat}(h:RowB W b m r)(hg:W.grownBy W' row)(hn:some b≠row):RowB W' b m r:=(hg.block b h.lt hn).trans h
theorem RowB.set(h:RowB W b m r){j:Nat}(hj:j<m)(x:Raw):
 RowB (((W.setCell ⟨b,j*3,none⟩ (.bool x.1)).setCell ⟨b,j*3+1,none⟩ (.string x.2.1)).setCell ⟨b,j*3+2,none⟩ (.string x.2.2)) b m (fun i=>if i=j then x else r i):=by
 have hs:=RF r hj x;have hl:=AE m r;unfold RowB at h ⊢;rw[<-hs]
 have h1:∀(V:World)(l:List Value)(o:Nat)(v:Value),V.heap[b]? = some (.cells l.toArray 48 (0,0))->(V.setCell ⟨b,o,none⟩ v).heap[b]? = some (.cells (l.set o v).toArray 48 (0,0)):=by
  intro V l o v hv;simp[World.setCell,Array.getElem?_modify,hv]
 exact h1 _ _ _ _ (h1 _ _ _ _ (h1 _ _ _ _ h))
end
theorem infoQ:(prog.info? 48).map (fun i=>(i.zero,i.size,i.bytes))=some (some (.agg #[.bool false,.string ⟨#[]⟩,.string ⟨#[]⟩]),3,40):=by kernel_rfl
def zraw:Raw:=(false,⟨#[]⟩,⟨#[]⟩)
theorem RG(m:Nat):madeCells (.agg #[.bool false,.string ⟨#[]⟩,.string ⟨#[]⟩]:Value).cells (m*3)=(AN m fun _=>zraw).toArray:=by
 have e:(.agg #[.bool false,.string ⟨#[]⟩,.string ⟨#[]⟩]:Value).cells=#[.bool false,.string ⟨#[]⟩,.string ⟨#[]⟩]:=by simp[Value.cells]
 rw[e];apply Array.ext
 .rw[size_madeCells];simp[AE]
 intro i h1 h2;rw[size_madeCells]at h1;have h3:=CJ (m:=m) (j:=i/3) (fun _=>zraw) (by omega) (i%3) (by omega);rw[show i/3*3+i%3=i by omega]at h3;have h4:(AN m fun _=>zraw)[i]? = some ((AN m fun _=>zraw)[i]'(by simpa using h2)):=zj _;rw[h4]at h3
 have h5:(madeCells #[(.bool false:Value),.string ⟨#[]⟩,.string ⟨#[]⟩] (m*3))[i]'(by rw[size_madeCells];exact h1)=(#[(.bool false:Value),.string ⟨#[]⟩,.string ⟨#[]⟩]:Array Value)[i%3]!:=by
  simp[madeCells]
 rw[h5,List.getElem_toArray];have h6:i%3=0\/i%3=1\/i%3=2:=by omega
 rcases h6 with h6|h6|h6<;>rw[h6]at h3 ⊢<;>simp[ED,zraw]at h3 ⊢<;>exact h3.symm
theorem FE(t:TypeId)(ht:prog.underlying t=some (.slice 48))(m:Nat)(hm:m<=1000)(w:World):
 (Instr.makeSlice t (.int .i64 (m:Int)) (.int .i64 (m:Int))).run prog w=.ok (.slice (some ⟨w.heap.size,0,none⟩) m m) (w.alloc (.cells (AN m fun _=>zraw).toArray 48)):=by
 obtain⟨i,hi,d⟩:=Option.map_eq_some_iff.1 infoQ;simp only[Prod.mk.injEq]at d;obtain⟨hz,hs,hb⟩:=d;have hr:=run_make (P:=prog) w t 48 i _ ht hi hz .i64 .i64 m m (by omega) (Int.le_refl _) (by rw[hb];omega) (by omega);simp only[wL,hs]at hr;rw[RG]at hr;exact hr
theorem MO(w:World)(dT sT ty:TypeId)(g dLen dCap:Nat)(a:Addr)(n sCap:Nat)(cur cs:List Value)
 (hu:prog.underlying dT=some (.slice 48))(hg:w.heap[g]? = some (.cells cur.toArray 48 (0,0)))(hn:cs.length=n*3)(ad:n<=dLen)
 (aa:∀j v,cs[j]? = some v->w.cell? (a.add j)=some v)(d:cs.length<=cur.length)(h1:∀v∈cs,v.oneCell'=true):
 (Builtin.copy_ #[dT,sT] ty #[.slice (some ⟨g,0,none⟩) dLen dCap,.slice (some a) n sCap]).run prog w=.ok (goInt n) (w.setRow g (cs++cur.drop cs.length).toArray):=by
 have hl:=run_loadCells_list (P:=prog) w a cs aa;have ae:=run_storeCells_at prog g 0 48 cs 0 cur.toArray w hg (by simpa using d) h1;obtain⟨i,hi,ab⟩:=Option.map_eq_some_iff.1 infoQ;simp only[Prod.mk.injEq]at ab;obtain⟨hz,hs,hb⟩:=ab;have h:Nat.min n dLen=n:=Nat.min_eq_left ad;simp[Builtin.copy_,run_underlying hu,Builtin.lenOf,Builtin.firstCells,sizeOf,typeInfo,hi,hs,h,<-hn,hl,ae]
def InRow(W:World)(A:Option Addr)(l:List Raw):Prop :=
 0<l.length->∃b off,A=some ⟨b,off,none⟩/\b<W.heap.size/\∀j (h:j<l.length),W.cell? ⟨b,off+j*3,none⟩=some (.bool l[j].1)/\W.cell? ⟨b,off+j*3+1,none⟩=some (.string l[j].2.1)/\W.cell? ⟨b,off+j*3+2,none⟩=some (.string l[j].2.2)
theorem InRow.below{W W':World}{B:Nat}{A:Option Addr}{l:List Raw}(h:InRow W A l)(hb:Below B W W')(hB:W.heap.size<=B):InRow W' A l:=fun h0=>by
 obtain⟨b,off,e,hl,hc⟩:=h h0;refine⟨b,off,e,zJ hl hb.size,fun j hj=>?_⟩;obtain⟨c1,c2,c3⟩:=hc j hj;exact⟨(hb.cell (p:=⟨b,off+j*3,none⟩) (by show b<B;omega)).trans c1,(hb.cell (p:=⟨b,off+j*3+1,none⟩) (by show b<B;omega)).trans c2,(hb.cell (p:=⟨b,off+j*3+2,none⟩) (by show b<B;omega)).trans c3⟩
abbrev RowH:=Option Addr×Nat×List Raw
def InMat(W:World)(A:Option Addr)(l:List RowH):Prop :=
 0<l.length->∃b off,A=some ⟨b,off,none⟩/\b<W.heap.size/\∀i (h:i<l.length),W.cell? ⟨b,off+i,none⟩=some (.slice l[i].1 l[i].2.2.length l[i].2.1)/\InRow W l[i].1 l[i].2.2
theorem InMat.below{W W':World}{B:Nat}{A:Option Addr}{l:List RowH}(h:InMat W A l)(hb:Below B W W')(hB:W.heap.size<=B):InMat W' A l:=fun h0=>by
 obtain⟨b,off,e,hl,hc⟩:=h h0;refine⟨b,off,e,zJ hl hb.size,fun i hi=>?_⟩;obtain⟨c1,c2⟩:=hc i hi;exact⟨(hb.cell (p:=⟨b,off+i,none⟩) (by show b<B;omega)).trans c1,c2.below hb hB⟩
def EnvB(B:Nat)(w:World):Prop:=∀w',Below B w w'->Env w'
theorem EnvB.of{w:World}(h:Env w):EnvB w.heap.size w:=fun _ hb=>h.below hb
theorem EnvB.env{B:Nat}{w:World}(h:EnvB B w):Env w:=h w (zI B w)
theorem EnvB.below{B:Nat}{w w':World}(h:EnvB B w)(hb:Below B w w'):EnvB B w':=fun _ h2=>h _ (hb.trans h2)
end Nt
end
section
open Go.RowKit Go.Shelf
namespace Nt
def FF(x:Raw):Bool:=A5 x.1 x.2.1 x.2.2
def EE(x:Raw):Prop:=x.2.1.size<=140737488355328/\x.2.2.size<=140737488355328
def allV(l:List Raw):Bool:=l.all FF
theorem MP(x:Raw)(w:World)(hE:Env w)(hz:EE x):
 Calls prog 120 #[.agg #[.bool x.1,.string x.2.1,.string x.2.2]] w fun e w'=>e=.returned (.bool (!FF x))/\Below w.heap.size w w':=by
 obtain⟨g,n,d⟩:=x;have hv:=fun W (h:Env W)=>AQ g n d W h hz.1 hz.2;have e:FF (g,n,d)=A5 g n d:=rfl;rw[e];dsimp only;clear e;generalize A5 g n d=v at *;replace hE:=zh hE;replace hv:=zh hv;clear hz;go_enter func120,ntmps120
 go_wp2_with fail
 refine(hv.o _ (hE.o.below (FB w g n d))).q fun w1 hb=>?_;have hB:=zh ((FB w g n d).trans (hb.mono (by simp)));clear hb;go_wp2;go_ret;exact⟨rfl,hB.o⟩
theorem If(w:World):
 Calls prog 82 #[] w fun e w'=>e=.returned (.agg #[.bool false,.string ⟨#[48]⟩,.string ⟨#[49]⟩])/\Below w.heap.size w w':=by
 go_enter func82,ntmps82;go_wp2;refine zm (v:=.agg #[.bool false,.string ⟨#[48]⟩,.string ⟨#[49]⟩]) (by simp[results,results82,go_sem]) rfl ⟨rfl,?_⟩
 repeat refine yH ?_ (by simp only[];omega) _
 exact FB _ _ _ _
def Kn(l:List Raw):Int:=if allV l then -1 else (l.findIdx fun x=>!FF x:Nat)
theorem Um{l:List Raw}{k:Nat}(hk:k<l.length)(d:∀j (h:j<l.length),j<k->FF l[j]=true)(hb:FF l[k]=false):Kn l=k:=by
 unfold Kn allV
 have h1:l.all FF=false:=by
  rw[List.all_eq_false];exact⟨l[k],zN hk,by rw[hb];simp⟩
 rw[h1,zC (by simp)]
 congr 1
 rw[List.findIdx_eq hk];exact⟨by rw[hb];rfl,fun j hj=>by rw[d j (by omega) hj];rfl⟩
theorem RH{l:List Raw}(d:∀j (h:j<l.length),j<l.length->FF l[j]=true):Kn l=-1:=by
 unfold Kn allV;rw[zD];rw[wM];intro x hx;obtain⟨j,hj,rfl⟩:=zg hx;exact d j hj hj
theorem Un(l:List Raw):decide (0<=Kn l)=!allV l:=by
 unfold Kn
 cases allV l
 .rw[zC (by simp)];simp
 rw[zD rfl];rfl
theorem RI(A:Option Addr)(cap:Nat)(l:List Raw)(w:World)(hE:Env w)(hr:InRow w A l)(hl:l.length<=140737488355328)(hz:∀x∈l,EE x):
 Calls prog 151 #[.slice A l.length cap,.func (.func 120) #[] #[]] w
  fun e w'=>e=.returned (.int .i64 (Kn l))/\Below w.heap.size w w':=by
 have HF:=zh (fun(k:Nat) (hk:k<l.length) h1 h2=>Um (l:=l) hk h1 h2);have HA:=zh (RH (l:=l));generalize Kn l=res at *;replace hE:=zh hE;replace hr:=zh hr;replace hz:=zh hz;go_enter func151,ntmps151;go_wp2
 go_loopw [8] (fun i wr=>∃k:Nat,k<=l.length/\i=.int .i64 (k:Int)/\Hid (∀j (h:j<l.length),j<k->FF l[j]=true)/\Hid (Below w.heap.size w wr)) (fun i _=>l.length-(intOf i).toNat)
 case atStart=>exact⟨0,zQ _,rfl,fun j _ h=>absurd h (by omega),zI _ _⟩
 case round=>
  obtain⟨k,hk,rfl,ab,hB⟩:=hrel
  by_cases hlt:k<l.length
  .obtain ⟨b,off,rfl,hb,hc⟩:=(hr.o.below hB.o (zB _)) (by omega);obtain⟨c1,c2,c3⟩:=hc k hlt;clear hc;have hx:=hz.o l[k] (zN hlt);have kv:=fun W (h:Env W)=>MP l[k] W h hx;have HK:=zh (HF.o k hlt ab.o)
   have HL:Hid (FF l[k]=true->∀j (h:j<l.length),j<k+1->FF l[j]=true):=fun hv j h hj=>by
    by_cases e:j=k
    .subst e;exact hv
    exact ab.o j h (by omega)
   generalize l[k]=x at *;obtain⟨g,n,d⟩:=x;dsimp only at c1 c2 c3 kv;replace kv:=zh kv;clear hx
   cases hv:FF (g,n,d) with
   |true=>
    have HL2:=zh (HL.o hv);rw[hv]at kv;clear HL HK hv
    go_wp2_with fail
    refine(kv.o _ (hE.o.below hB.o)).q fun w1 aa=>?_;have ad:=hB.t aa;clear aa;go_wp2
    go_roundw
    case rel=>exact⟨k+1,by omega,by go_num,HL2,ad⟩
    case measure=>simp[intOf];omega
   |false=>
    have HK2:=zh (HK.o hv);rw[hv]at kv;clear HL HK hv
    go_wp2_with fail
    refine(kv.o _ (hE.o.below hB.o)).q fun w1 aa=>?_;have ad:=hB.t aa;clear aa;go_wp2;go_ret;exact⟨by rw[HK2.o];rfl,ad.o⟩
  obtain rfl:k=l.length:=by omega
  have HE:=zh (HA.o ab.o);go_wp2;go_ret;exact⟨by rw[HE.o];rfl,hB.o⟩
theorem Pp(A:Option Addr)(cap:Nat)(l:List Raw)(w:World)(hE:Env w)(hr:InRow w A l)(hl:l.length<=140737488355328)(hz:∀x∈l,EE x):
 Calls prog 119 #[.slice A l.length cap,.func (.func 120) #[] #[]] w
  fun e w'=>e=.returned (.bool (!allV l))/\Below w.heap.size w w':=by
 have hi:=RI A cap l w hE hr hl hz;have hg:=Un l;generalize Kn l=i at *;generalize (!allV l)=v at *;go_enter func119,ntmps119
 go_wp2_with fail
 refine hi.q fun w1 hb=>?_;replace hb:=zh hb;go_wp2;go_ret;exact⟨rfl,hb.o⟩
theorem Dr(A:Option Addr)(cap:Nat)(l:List Raw)(w:World)(hE:Env w)(hr:InRow w A l)(hl:l.length<=140737488355328)(hz:∀x∈l,EE x):
 Calls prog 77 #[.slice A l.length cap] w fun e w'=>e=.returned (.bool (allV l))/\Below w.heap.size w w':=by
 have hi:=Pp A cap l w hE hr hl hz;generalize allV l=v at *;go_enter func77,ntmps77
 go_wp2_with fail
 refine hi.q fun w1 hb=>?_;replace hb:=zh hb;go_wp2;go_ret;exact⟨by first|rfl|simp,hb.o⟩
theorem A8{w w1 w2:World}{row:Option Nat}(h:w.grownBy w1 row)(hb:Below w1.heap.size w1 w2):w.grownBy w2 row :=
 ⟨hb.os.trans h.os,hb.tape.trans h.tape,hb.output.trans h.output,zS h.size hb.size,fun k hk d=>(hb.block k (zJ hk h.size)).trans (h.block k hk d)⟩
theorem Au{w w1:World}{b:Nat}(h:w.grownBy w1 (some b))(o:Nat)(v:Value):w.grownBy (w1.setCell ⟨b,o,none⟩ v) (some b) :=
 ⟨h.os,h.tape,h.output,by simpa using h.size,fun k hk d=>(ze w1 ⟨b,o,none⟩ v k (fun e=>d (congrArg some e))).trans (h.block k hk d)⟩
theorem Ek(w:World)(row:Option Nat):w.grownBy w row:=⟨rfl,rfl,rfl,zB _,fun _ _ _=>rfl⟩
theorem Ba{B:Nat}{w w1:World}{b:Nat}(h:w.grownBy w1 (some b))(hb:B<=b)(hB:B<=w.heap.size):Below B w w1 :=
 ⟨h.os,h.tape,h.output,by have:=h.size;omega,fun k hk=>h.block k (by omega) (by intro e;cases e;omega)⟩
theorem B3.grown{W W':World}{b c:Nat}{g:Bool}{n d:ByteArray}(h:B3 W c g n d)(hg:W.grownBy W' (some b))(aa:c≠b):B3 W' c g n d :=
 (hg.block c h.lt (fun e=>aa (Option.some.inj e))).trans h
theorem RJ(j:Int)(g1 g2:Bool)(n1 d1 n2 d2:ByteArray)(r:Bool)(n d:ByteArray)(E:Int)(pb:Nat)(w:World)(hE:Env w)(hp:B3 w pb g2 n2 d2)
 (kd:∀W,Env W->Calls prog 85 #[.agg #[.bool g1,.string n1,.string d1],.agg #[.bool g2,.string n2,.string d2]] W fun e w'=>e=.returned (.tuple #[.agg #[.bool r,.string n,.string d],.int .i64 E])/\Below W.heap.size W w'):
 Calls prog 84 #[.int .i64 j,.agg #[.bool g1,.string n1,.string d1],.pointer (some ⟨pb,0,none⟩)] w fun e w'=>e=.returned (.tuple #[.agg #[.bool r,.string n,.string d],.int .i64 E])/\Below w.heap.size w w':=by
 have q0:=zh ((B3.new w g1 n1 d1).alloc (.cells #[.bool false,.string ⟨#[]⟩,.string ⟨#[]⟩] 48))
 have r0:Hid (B3 ((w.alloc (.cells #[.bool g1,.string n1,.string d1] 48)).alloc (.cells #[.bool false,.string ⟨#[]⟩,.string ⟨#[]⟩] 48)) (w.heap.size+1) false ⟨#[]⟩ ⟨#[]⟩):=by
  have h:=B3.new (w.alloc (.cells #[.bool g1,.string n1,.string d1] 48)) false ⟨#[]⟩ ⟨#[]⟩
  rwa [show (w.alloc (.cells #[.bool g1,.string n1,.string d1] 48)).heap.size=w.heap.size+1 by simp]at h
 have p0:=zh ((hp.alloc (.cells #[.bool g1,.string n1,.string d1] 48)).alloc (.cells #[.bool false,.string ⟨#[]⟩,.string ⟨#[]⟩] 48));have aa:Hid (Below w.heap.size w ((w.alloc (.cells #[.bool g1,.string n1,.string d1] 48)).alloc (.cells #[.bool false,.string ⟨#[]⟩,.string ⟨#[]⟩] 48))):=((zI _ w).alloc (zB _) _).alloc (by simp) _;obtain⟨p1,p2,p3,p4,p5,p6⟩:=hp.facts;have p7:=hp.lt;replace hE:=zh hE;replace kd:=zh kd;clear hp;go_enter func84,ntmps84
 go_wp2_with fail
 refine(kd.o _ (hE.o.below aa.o)).q fun w1 hb=>?_;have r1:=zh (r0.o.below hb);have ab:=aa.t hb;clear hb p1 p2 p3 p4 p5 p6 p7;obtain⟨c1,c2,c3,c4,c5,c6⟩:=r1.o.facts;have c7:=r1.o.lt;go_wp2;refine zm (v:=.tuple #[.agg #[.bool r,.string n,.string d],.int .i64 E]) (by simp[results,results84,go_sem,c1,c2,c3]) rfl ⟨rfl,?_⟩
 repeat refine yH ?_ (by simp only[];omega) _
 exact ab.o
theorem Oa(j:Int)(q p:Rat)(hq:ShortQ q)(hp:ShortQ p)(h0:p≠0)(pb:Nat)(w:World)(hE:Env w)(hb:B3 w pb (rq p).1 (rq p).2.1 (rq p).2.2):
 Calls prog 84 #[.int .i64 j,qv q,.pointer (some ⟨pb,0,none⟩)] w fun e w'=>e=.returned (.tuple #[qv (q/p),.int .i64 0])/\Below w.heap.size w w' :=
 RJ j _ _ _ _ _ _ _ _ _ _ pb w hE hb fun W hW=>Pd q p hq hp h0 W hW
theorem Uo(j:Int)(q p:Rat)(hq:OkQ q)(hp:OkQ p)(h0:p≠0)(hl:¬(ShortQ q/\ShortQ p))(pb:Nat)(w:World)(hE:Env w)(hb:B3 w pb (rq p).1 (rq p).2.1 (rq p).2.2):
 Calls prog 84 #[.int .i64 j,qv q,.pointer (some ⟨pb,0,none⟩)] w fun e w'=>e=.returned (.tuple #[zv,.int .i64 2])/\Below w.heap.size w w' :=
 RJ j _ _ _ _ _ _ _ _ _ _ pb w hE hb fun W hW=>Rq q p hq hp h0 hl W hW
def Blk1(W:World)(b:Nat)(v:Value):Prop:=W.heap[b]? = some (.cells #[v] 39 (0,0))
theorem Blk1.lt{W:World}{b:Nat}{v:Value}(h:Blk1 W b v):b<W.heap.size:=(Array.getElem?_eq_some_iff.1 h).1
theorem Blk1.cell{W:World}{b:Nat}{v:Value}(h:Blk1 W b v):W.cell? ⟨b,0,none⟩=some v:=by unfold Blk1 at h;simp[World.cell?,h]
theorem Blk1.grown{W W':World}{b c:Nat}{v:Value}(h:Blk1 W c v)(hg:W.grownBy W' (some b))(d:c≠b):Blk1 W' c v:=(hg.block c h.lt (fun e=>d (Option.some.inj e))).trans h
theorem Blk1.alloc{W:World}{b:Nat}{v:Value}(h:Blk1 W b v)(o:Obj):Blk1 (W.alloc o) b v:=(yM W o b h.lt).trans h
theorem Blk1.below{W W':World}{b:Nat}{v:Value}(h:Blk1 W b v)(hb:Below W.heap.size W W'):Blk1 W' b v:=(hb.block b h.lt).trans h
theorem CM(q:Rat):∃g n d,rq q=(g,n,d):=⟨_,_,_,rfl⟩
theorem DB{q:Rat}{g:Bool}{n d:ByteArray}(h:rq q=(g,n,d)):qv q=.agg #[.bool g,.string n,.string d]:=by
 have h1:(rq q).1=g:=by rw[h]
 have h2:(rq q).2.1=n:=by rw[h]
 have h3:(rq q).2.2=d:=by rw[h]
 rw[<-h1,<-h2,<-h3];rfl
theorem MQ(B b k N cap:Nat)(r:Nat->Rat)(p:Rat)(pb:Nat)(w:World)(hE:EnvB B w)(hB:B<=b)(hR:RowB w b N fun j=>rq (r j))(hk:k<=N)(hN:N<=1000)(hp:B3 w pb (rq p).1 (rq p).2.1 (rq p).2.2)(ah:pb≠b)(h0:p≠0)(ag:∀j,k<=j->j<N->ShortQ (r j)/\ShortQ p):
 Calls prog 83 #[.slice (some ⟨b,k*3,none⟩) ((N-k:Nat):Nat) cap,.func (.func 84) #[] #[.pointer (some ⟨pb,0,none⟩)]] w fun e w'=>e=.returned (.int .i64 0)/\w.grownBy w' (some b)/\RowB w' b N fun j=>rq (if k<=j then r j/p else r j):=by
 have ai:=zh (zS hB (xW hR.lt));obtain⟨m,hm⟩:∃m,m=N-k:=⟨_,rfl⟩;rw[<-hm];replace hB:=zh hB;replace hE:=zh hE;replace hR:=zh hR;replace ag:=zh ag;replace hp:=zh hp;replace ah:=zh ah;replace h0:=zh h0;have HM:Hid (k+m=N):=by show k+m=N;omega
 have ap:m<=1000:=by omega
 clear hm hk hN;go_enter func83,ntmps83;go_wp2
 go_loopw [11] (fun i wr=>∃y:Nat,y<=m/\i=.int .i64 (y:Int)/\Hid (w.grownBy wr (some b))/\Hid (RowB wr b N fun j=>rq (if k<=j/\j<k+y then r j/p else r j))) (fun i _=>m-(intOf i).toNat)
 case atStart=>exact⟨0,zQ _,rfl,Ek _ _,hR.o.congr fun j _=>by rw[zC (by omega)]⟩
 case round=>
  obtain⟨i,hi,rfl,hG,ab⟩:=hrel
  by_cases hlt:i<m
  .have af:k+i<N:=by have:=HM.o;omega
   have aa:=ab.o.cell (j:=k+i) af;have ae:=ab.o.frozen;rw[zC (by omega),yS]at aa;have ao:=ab.o.lt;obtain⟨xg,xn,xd,hx⟩:=CM (r (k+i));rw[hx]at aa;obtain⟨c1,c2,c3⟩:=aa;have f1:=ae (k*3+i*3);have f2:=ae (k*3+i*3+1);have f3:=ae (k*3+i*3+2);clear ae;have ho:=ag.o (k+i) (by omega) (by omega);obtain⟨yg,yn,yd,hy⟩:=CM (r (k+i)/p);have kc:=fun W (h:Env W) (am:B3 W pb (rq p).1 (rq p).2.1 (rq p).2.2)=>Oa (i:Int) (r (k+i)) p ho.1 ho.2 h0.o pb W h am;rw[DB hx,DB hy]at kc;have pw:=zh ((hp.o.grown hG.o ah.o).alloc (.cells #[.bool xg,.string xn,.string xd] 48));replace kc:=zh kc;replace hx:=zh hx;replace hy:=zh hy;clear ho;have ak:=zh (Ba hG.o hB.o ai.o);have aj:Hid (Below wr.heap.size wr (wr.alloc (.cells #[.bool xg,.string xn,.string xd] 48))):=AR _ _
   go_wp2_with fail
   refine(kc.o _ ((hE.o.below (ak.o.trans (aj.o.mono (zS ai.o hG.o.size)))).env) pw.o).q fun w1 hb=>?_;have al:=zh (A8 (A8 hG.o aj.o) hb);have d:=zh ((ab.o.alloc (.cells #[.bool xg,.string xn,.string xd] 48)).below hb (by simp;omega));clear hb c1 c2 c3 f1 f2 f3;have aa:=d.o.cell (j:=k+i) af;rw[zC (by omega),yS,hx.o]at aa;obtain⟨c1,c2,c3⟩:=aa;have f1:=d.o.frozen (k*3+i*3);have f2:=d.o.frozen (k*3+i*3+1);have f3:=d.o.frozen (k*3+i*3+2);have an:=d.o.lt;have ad:=d.o.set af (yg,yn,yd);rw[yS]at ad
   replace ad:=zh (ad.congr (s:=fun j=>rq (if k<=j/\j<k+(i+1) then r j/p else r j)) fun j hj=>by
    by_cases e:j=k+i
    .rw[zD e,zD (by omega),e,hy.o]
    rw[zC e]
    by_cases h1:k<=j/\j<k+i
    .rw[zD h1,zD (by omega)]
    rw[zC h1,zC (by omega)])
   go_wp2
   go_roundw
   case rel=>exact⟨i+1,by omega,by go_num,A8 (Au (Au (Au al.o _ _) _ _) _ _) (AR _ _),ad.o.alloc _⟩
   case measure=>simp[intOf];omega
  obtain rfl:i=m:=by omega
  go_wp2;go_ret
  exact ⟨rfl,hG.o,ab.o.congr fun j hj=>by
   by_cases h1:k<=j
   .rw[zD h1,zD ⟨h1,by have:=HM.o;omega⟩]
   rw[zC h1,zC fun h=>h1 h.1]⟩
theorem MR(B b k N cap:Nat)(r:Nat->Rat)(p:Rat)(pb:Nat)(w:World)(hE:EnvB B w)(hB:B<=b)(hR:RowB w b N fun j=>rq (r j))(hk:k<=N)(hN:N<=1000)(hp:B3 w pb (rq p).1 (rq p).2.1 (rq p).2.2)(aj:pb≠b)(h0:p≠0)(t:Nat)(av:k<=t)(ay:t<N)(ap:∀j,k<=j->j<t->ShortQ (r j)/\ShortQ p)(ah:¬(ShortQ (r t)/\ShortQ p))(am:∀j,k<=j->j<N->OkQ (r j))(an:OkQ p):
 Calls prog 83 #[.slice (some ⟨b,k*3,none⟩) ((N-k:Nat):Nat) cap,.func (.func 84) #[] #[.pointer (some ⟨pb,0,none⟩)]] w fun e w'=>e=.returned (.int .i64 2)/\w.grownBy w' (some b):=by
 have ai:=zh (zS hB (xW hR.lt));obtain⟨m,hm⟩:∃m,m=N-k:=⟨_,rfl⟩;rw[<-hm];replace hB:=zh hB;replace hE:=zh hE;replace hR:=zh hR;replace ap:=zh ap;replace hp:=zh hp;replace aj:=zh aj;replace h0:=zh h0;replace ah:=zh ah;replace am:=zh am;replace an:=zh an;have HM:Hid (k+m=N):=by show k+m=N;omega
 have ax:m<=1000:=by omega
 clear hm hk hN;go_enter func83,ntmps83;go_wp2
 go_loopw [11] (fun i wr=>∃y:Nat,y<=t-k/\i=.int .i64 (y:Int)/\Hid (w.grownBy wr (some b))/\Hid (RowB wr b N fun j=>rq (if k<=j/\j<k+y then r j/p else r j))) (fun i _=>m-(intOf i).toNat)
 case atStart=>exact⟨0,zQ _,rfl,Ek _ _,hR.o.congr fun j _=>by rw[zC (by omega)]⟩
 case round=>
  obtain⟨i,hi,rfl,hG,ab⟩:=hrel;have aw:i<m:=by have:=HM.o;omega
  by_cases he:i<t-k
  .have af:k+i<N:=by have:=HM.o;omega
   have d:=ab.o.cell (j:=k+i) af;have ad:=ab.o.frozen;rw[zC (by omega),yS]at d;have aq:=ab.o.lt;obtain⟨xg,xn,xd,hx⟩:=CM (r (k+i));rw[hx]at d;obtain⟨c1,c2,c3⟩:=d;have f1:=ad (k*3+i*3);have f2:=ad (k*3+i*3+1);have f3:=ad (k*3+i*3+2);clear ad;have ho:=ap.o (k+i) (by omega) (by omega);obtain⟨yg,yn,yd,hy⟩:=CM (r (k+i)/p);have kc:=fun W (h:Env W) (ao:B3 W pb (rq p).1 (rq p).2.1 (rq p).2.2)=>Oa (i:Int) (r (k+i)) p ho.1 ho.2 h0.o pb W h ao;rw[DB hx,DB hy]at kc;have pw:=zh ((hp.o.grown hG.o aj.o).alloc (.cells #[.bool xg,.string xn,.string xd] 48));replace kc:=zh kc;replace hx:=zh hx;replace hy:=zh hy;clear ho;have ak:=zh (Ba hG.o hB.o ai.o);have ag:Hid (Below wr.heap.size wr (wr.alloc (.cells #[.bool xg,.string xn,.string xd] 48))):=AR _ _
   go_wp2_with fail
   refine(kc.o _ ((hE.o.below (ak.o.trans (ag.o.mono (zS ai.o hG.o.size)))).env) pw.o).q fun w1 hb=>?_;have al:=zh (A8 (A8 hG.o ag.o) hb);have aa:=zh ((ab.o.alloc (.cells #[.bool xg,.string xn,.string xd] 48)).below hb (by simp;omega));clear hb c1 c2 c3 f1 f2 f3;have d:=aa.o.cell (j:=k+i) af;rw[zC (by omega),yS,hx.o]at d;obtain⟨c1,c2,c3⟩:=d;have f1:=aa.o.frozen (k*3+i*3);have f2:=aa.o.frozen (k*3+i*3+1);have f3:=aa.o.frozen (k*3+i*3+2);have au:=aa.o.lt;have ae:=aa.o.set af (yg,yn,yd);rw[yS]at ae
   replace ae:=zh (ae.congr (s:=fun j=>rq (if k<=j/\j<k+(i+1) then r j/p else r j)) fun j hj=>by
    by_cases e:j=k+i
    .rw[zD e,zD (by omega),e,hy.o]
    rw[zC e]
    by_cases h1:k<=j/\j<k+i
    .rw[zD h1,zD (by omega)]
    rw[zC h1,zC (by omega)])
   go_wp2
   go_roundw
   case rel=>exact⟨i+1,by omega,by go_num,A8 (Au (Au (Au al.o _ _) _ _) _ _) (AR _ _),ae.o.alloc _⟩
   case measure=>simp[intOf];omega
  have ar:k+i=t:=by omega
  obtain rfl:=ar;clear he hi;have af:k+i<N:=by have:=HM.o;omega
  have d:=ab.o.cell (j:=k+i) af;have ad:=ab.o.frozen;rw[zC (by omega),yS]at d;have aq:=ab.o.lt;obtain⟨xg,xn,xd,hx⟩:=CM (r (k+i));rw[hx]at d;obtain⟨c1,c2,c3⟩:=d;have f1:=ad (k*3+i*3);have f2:=ad (k*3+i*3+1);have f3:=ad (k*3+i*3+2);clear ad;have kc:=fun W (h:Env W) (ao:B3 W pb (rq p).1 (rq p).2.1 (rq p).2.2)=>Uo (i:Int) (r (k+i)) p (am.o (k+i) (by omega) af) an.o h0.o ah.o pb W h ao;rw[DB hx]at kc;simp only[zv]at kc;have pw:=zh ((hp.o.grown hG.o aj.o).alloc (.cells #[.bool xg,.string xn,.string xd] 48));replace kc:=zh kc;replace hx:=zh hx;have ak:=zh (Ba hG.o hB.o ai.o);have ag:Hid (Below wr.heap.size wr (wr.alloc (.cells #[.bool xg,.string xn,.string xd] 48))):=AR _ _
  go_wp2_with fail
  refine(kc.o _ ((hE.o.below (ak.o.trans (ag.o.mono (zS ai.o hG.o.size)))).env) pw.o).q fun w1 hb=>?_;have al:=zh (A8 (A8 hG.o ag.o) hb);clear hb c1 c2 c3 f1 f2 f3;go_wp2;go_ret;exact⟨rfl,A8 al.o (AR _ _)⟩
def SAt(W:World)(fb vb c o:Nat)(fg:Bool)(fn fd:ByteArray)(sv:Value)(sg:Bool)(sn sd:ByteArray):Prop :=
 B3 W fb fg fn fd/\Blk1 W vb sv/\c<W.heap.size/\W.cell? ⟨c,o,none⟩=some (.bool sg)/\W.cell? ⟨c,o+1,none⟩=some (.string sn)/\W.cell? ⟨c,o+2,none⟩=some (.string sd)
theorem MS{q:Rat}{k:Nat}(h:Dg k q)(hk:k<=300):OkQ q:=by
 have h1:10^k<=Lim:=by
  unfold Lim;exact zi (by omega) (by rw[E3];exact hk)
 exact⟨zJ h.1 h1,zJ h.2 h1⟩
theorem Up{p q:Rat}(hp:ShortQ p)(hq:ShortQ q):OkQ (p*q):=MS (Dg.mul (k:=mx1) (m:=mx1) hp hq) (by rw[E6];omega)
theorem Ob{p q:Rat}(hp:ShortQ p)(hq:ShortQ q):OkQ (p-q):=MS (Dg.sub (k:=mx1) (m:=mx1) hp hq) (by rw[E6];omega)
theorem Oc{p q:Rat}(hp:ShortQ p)(hq:ShortQ q)(h0:q≠0):OkQ (p/q):=MS (Dg.div (k:=mx1) (m:=mx1) hp hq h0) (by rw[E6];omega)
section
variable {W W':World} {fb vb c o Bx:Nat} {fg sg:Bool} {fn fd sn sd:ByteArray} {sv:Value}
theorem SAt.below(h:SAt W fb vb c o fg fn fd sv sg sn sd)(hb:Below W.heap.size W W'):SAt W' fb vb c o fg fn fd sv sg sn sd :=
 ⟨h.1.below hb,h.2.1.below hb,zJ h.2.2.1 hb.size,(hb.cell (p:=⟨c,o,none⟩) h.2.2.1).trans h.2.2.2.1,(hb.cell (p:=⟨c,o+1,none⟩) h.2.2.1).trans h.2.2.2.2.1,(hb.cell (p:=⟨c,o+2,none⟩) h.2.2.1).trans h.2.2.2.2.2⟩
theorem SAt.alloc(h:SAt W fb vb c o fg fn fd sv sg sn sd)(x:Obj):SAt (W.alloc x) fb vb c o fg fn fd sv sg sn sd:=h.below ((zI _ W).alloc (zB _) x)
theorem SAt.seven(h:SAt W fb vb c o fg fn fd sv sg sn sd):
 W.cell? ⟨fb,0,none⟩=some (.bool fg)/\W.cell? ⟨fb,1,none⟩=some (.string fn)/\W.cell? ⟨fb,2,none⟩=some (.string fd)/\W.cell? ⟨vb,0,none⟩=some sv /\
 W.cell? ⟨c,o,none⟩=some (.bool sg)/\W.cell? ⟨c,o+1,none⟩=some (.string sn)/\W.cell? ⟨c,o+2,none⟩=some (.string sd) :=
 ⟨h.1.facts.1,h.1.facts.2.1,h.1.facts.2.2.1,h.2.1.cell,h.2.2.2⟩
theorem SAt.seven_set(h:SAt W fb vb c o fg fn fd sv sg sn sd)(h1:fb≠Bx)(h2:vb≠Bx)(h3:c≠Bx)(x y z:Value):
 (((W.setCell ⟨Bx,0,none⟩ x).setCell ⟨Bx,1,none⟩ y).setCell ⟨Bx,2,none⟩ z).cell? ⟨fb,0,none⟩=some (.bool fg)/\(((W.setCell ⟨Bx,0,none⟩ x).setCell ⟨Bx,1,none⟩ y).setCell ⟨Bx,2,none⟩ z).cell? ⟨fb,1,none⟩=some (.string fn)/\(((W.setCell ⟨Bx,0,none⟩ x).setCell ⟨Bx,1,none⟩ y).setCell ⟨Bx,2,none⟩ z).cell? ⟨fb,2,none⟩=some (.string fd)/\(((W.setCell ⟨Bx,0,none⟩ x).setCell ⟨Bx,1,none⟩ y).setCell ⟨Bx,2,none⟩ z).cell? ⟨vb,0,none⟩=some sv /\
 (((W.setCell ⟨Bx,0,none⟩ x).setCell ⟨Bx,1,none⟩ y).setCell ⟨Bx,2,none⟩ z).cell? ⟨c,o,none⟩=some (.bool sg)/\(((W.setCell ⟨Bx,0,none⟩ x).setCell ⟨Bx,1,none⟩ y).setCell ⟨Bx,2,none⟩ z).cell? ⟨c,o+1,none⟩=some (.string sn)/\(((W.setCell ⟨Bx,0,none⟩ x).setCell ⟨Bx,1,none⟩ y).setCell ⟨Bx,2,none⟩ z).cell? ⟨c,o+2,none⟩=some (.string sd):=by
 obtain⟨k0,k1,k2,k3,k4,k5,k6⟩:=h.seven;exact⟨(AD _ _ _ _ _ _ _ h1).trans k0,(AD _ _ _ _ _ _ _ h1).trans k1,(AD _ _ _ _ _ _ _ h1).trans k2,(AD _ _ _ _ _ _ _ h2).trans k3,(AD _ _ _ _ _ _ _ h3).trans k4,(AD _ _ _ _ _ _ _ h3).trans k5,(AD _ _ _ _ _ _ _ h3).trans k6⟩
end
theorem sub4_er(j k m cap2:Nat)(xg fg sg:Bool)(xn xd fn fd sn sd:ByteArray)(fb vb c:Nat)(w:World)(hE:Env w)(hj:j<m)
 (hs:SAt w fb vb c (k*3+j*3) fg fn fd (.slice (some ⟨c,k*3,none⟩) m cap2) sg sn sd)
 (km:∀W,Env W->Calls prog 51 #[.agg #[.bool fg,.string fn,.string fd],.agg #[.bool sg,.string sn,.string sd]] W fun e w'=>e=.returned (.tuple #[.agg #[.bool false,.string ⟨#[]⟩,.string ⟨#[]⟩],.int .i64 2])/\Below W.heap.size W w'):
 Calls prog 86 #[.int .i64 (j:Int),.agg #[.bool xg,.string xn,.string xd],.pointer (some ⟨fb,0,none⟩),.pointer (some ⟨vb,0,none⟩)] w fun e w'=>e=.returned (.tuple #[.agg #[.bool false,.string ⟨#[]⟩,.string ⟨#[]⟩],.int .i64 2])/\Below w.heap.size w w':=by
 have ai:Hid (B3 ((w.alloc (.cells #[.bool xg,.string xn,.string xd] 48)).alloc (.cells #[.bool false,.string ⟨#[]⟩,.string ⟨#[]⟩] 48)) w.heap.size xg xn xd):=(B3.new w _ _ _).alloc _
 have aj:Hid (B3 ((w.alloc (.cells #[.bool xg,.string xn,.string xd] 48)).alloc (.cells #[.bool false,.string ⟨#[]⟩,.string ⟨#[]⟩] 48)) (w.heap.size+1) false ⟨#[]⟩ ⟨#[]⟩):=by
  have h:=B3.new (w.alloc (.cells #[.bool xg,.string xn,.string xd] 48)) false ⟨#[]⟩ ⟨#[]⟩
  rwa [show (w.alloc (.cells #[.bool xg,.string xn,.string xd] 48)).heap.size=w.heap.size+1 by simp]at h
 have q0:=zh ((hs.alloc (.cells #[.bool xg,.string xn,.string xd] 48)).alloc (.cells #[.bool false,.string ⟨#[]⟩,.string ⟨#[]⟩] 48));have ad:Hid (Below w.heap.size w ((w.alloc (.cells #[.bool xg,.string xn,.string xd] 48)).alloc (.cells #[.bool false,.string ⟨#[]⟩,.string ⟨#[]⟩] 48))):=((zI _ w).alloc (zB _) _).alloc (by simp) _;obtain⟨W0,ah⟩:∃W,W=(w.alloc (.cells #[.bool xg,.string xn,.string xd] 48)).alloc (.cells #[.bool false,.string ⟨#[]⟩,.string ⟨#[]⟩] 48):=⟨_,rfl⟩;rw[<-ah]at ai aj q0 ad;have i0:(0:Int)<=(j:Int):=by omega
 have i1:(j:Int)<(m:Int):=by omega
 replace ah:=zh ah;replace hE:=zh hE;replace km:=zh km;clear hs;go_enter func86,ntmps86
 go_wp2_with fail
 rw[<-ah.o];have q0d:Hid (SAt (W0.alloc (.cells #[.bool false,.string ⟨#[]⟩,.string ⟨#[]⟩] 48)).drew fb vb c (k*3+j*3) fg fn fd (.slice (some ⟨c,k*3,none⟩) m cap2) sg sn sd):=q0.o.alloc _;have x0d:Hid (B3 (W0.alloc (.cells #[.bool false,.string ⟨#[]⟩,.string ⟨#[]⟩] 48)).drew W0.heap.size false ⟨#[]⟩ ⟨#[]⟩):=B3.new W0 _ _ _;have am:Hid (B3 (W0.alloc (.cells #[.bool false,.string ⟨#[]⟩,.string ⟨#[]⟩] 48)).drew w.heap.size xg xn xd):=ai.o.alloc _;have ao:Hid (B3 (W0.alloc (.cells #[.bool false,.string ⟨#[]⟩,.string ⟨#[]⟩] 48)).drew (w.heap.size+1) false ⟨#[]⟩ ⟨#[]⟩):=aj.o.alloc _;have ae:Hid (Below w.heap.size w (W0.alloc (.cells #[.bool false,.string ⟨#[]⟩,.string ⟨#[]⟩] 48)).drew):=(ad.o.alloc ad.o.size _).drew;have q0e:Hid (SAt W0.drew fb vb c (k*3+j*3) fg fn fd (.slice (some ⟨c,k*3,none⟩) m cap2) sg sn sd):=q0.o;have an:Hid (B3 W0.drew w.heap.size xg xn xd):=ai.o;have ap:Hid (B3 W0.drew (w.heap.size+1) false ⟨#[]⟩ ⟨#[]⟩):=aj.o;have af:Hid (Below w.heap.size w W0.drew):=ad.o.drew;have ab:Hid (fb≠W0.heap.size/\vb≠W0.heap.size/\c≠W0.heap.size/\w.heap.size≠W0.heap.size/\w.heap.size+1≠W0.heap.size):=⟨yu q0.o.1.lt,yu q0.o.2.1.lt,yu q0.o.2.2.1,yu ai.o.lt,yu aj.o.lt⟩;obtain⟨a1,a2,a3,b1,c1,c2,c3⟩:=q0.o.seven
 go_region_held3 (fun w'=>w'.cell? ⟨fb,0,none⟩=some (.bool fg)/\w'.cell? ⟨fb,1,none⟩=some (.string fn)/\w'.cell? ⟨fb,2,none⟩=some (.string fd)/\w'.cell? ⟨vb,0,none⟩=some (.slice (some ⟨c,k*3,none⟩) m cap2)/\w'.cell? ⟨c,k*3+j*3,none⟩=some (.bool sg)/\w'.cell? ⟨c,k*3+j*3+1,none⟩=some (.string sn)/\w'.cell? ⟨c,k*3+j*3+2,none⟩=some (.string sd)) (first|(with_reducible exact q0.o.seven)|(with_reducible exact(q0.o.alloc _).seven)|(with_reducible exact q0d.o.seven)|(with_reducible exact q0e.o.seven)|(with_reducible exact q2.o.seven)|(with_reducible exact(q2.o.alloc _).seven)|(with_reducible exact q2.o.seven_set ab.o.1 ab.o.2.1 ab.o.2.2.1 _ _ _)|go_keep)
  (first
    |(go_at_call 51;refine(km.o _ ?_).mono ?_;(with_reducible exact hE.o.below ae.o);rintro e w2 ⟨rfl,d⟩;have q2:=zh (q0d.o.below d);have ag:=ae.t d;have x2:=zh (x0d.o.below d);have ak:=zh (am.o.below d);have al:=zh (ao.o.below d);obtain⟨y1,y2,y3,y4,y5,y6⟩:=x2.o.facts;have y7:=x2.o.lt;clear d)
    |(go_at_call 51;refine(km.o _ ?_).mono ?_;(with_reducible exact hE.o.below af.o);rintro e w2 ⟨rfl,d⟩;have q2:=zh (q0e.o.below d);have ag:=af.t d;have ak:=zh (an.o.below d);have al:=zh (ap.o.below d);clear d))
 all_goals (
  skip
  first
   |(obtain⟨w3,aa⟩:∃W,W=w2.alloc (.cells #[.bool false,.string ⟨#[]⟩,.string ⟨#[]⟩] 48):=⟨_,rfl⟩;rw[<-aa];have au:Hid (B3 w3 w.heap.size xg xn xd):=(by rw[aa];exact ak.o.alloc _);have aq:Hid (B3 w3 (w.heap.size+1) false ⟨#[]⟩ ⟨#[]⟩):=(by rw[aa];exact al.o.alloc _);have av:Hid (B3 w3 w2.heap.size false ⟨#[]⟩ ⟨#[]⟩):=(by rw[aa];exact B3.new w2 _ _ _);have ar:Hid (Below w.heap.size w w3):=(by rw[aa];exact ag.o.alloc ag.o.size _))
   |(obtain⟨w3,aa⟩:∃W,W=((w2.setCell ⟨W0.heap.size,0,none⟩ (.bool false)).setCell ⟨W0.heap.size,1,none⟩ (.string ⟨#[]⟩)).setCell ⟨W0.heap.size,2,none⟩ (.string ⟨#[]⟩):=⟨_,rfl⟩;rw[<-aa];have au:Hid (B3 w3 w.heap.size xg xn xd):=(by rw[aa];exact((ak.o.other ab.o.2.2.2.1 _).other ab.o.2.2.2.1 _).other ab.o.2.2.2.1 _);have aq:Hid (B3 w3 (w.heap.size+1) false ⟨#[]⟩ ⟨#[]⟩):=(by rw[aa];exact((al.o.other ab.o.2.2.2.2 _).other ab.o.2.2.2.2 _).other ab.o.2.2.2.2 _);have av:Hid (B3 w3 W0.heap.size false ⟨#[]⟩ ⟨#[]⟩):=(by rw[aa];exact((x2.o.set0 false).set1 ⟨#[]⟩).set2 ⟨#[]⟩);have ar:Hid (Below w.heap.size w w3):=(by rw[aa];exact((ag.o.setCell ad.o.size _).setCell ad.o.size _).setCell ad.o.size _);clear x2 y1 y2 y3 y4 y5 y6 y7)
  clear aa q2 ag ak al q0 q0d q0e x0d ai aj am ao an ap ad ae af ab ah a1 a2 a3 b1 c1 c2 c3 km i0 i1;obtain⟨x1,x2,x3,x4,x5,x6⟩:=au.o.facts;obtain⟨z1,z2,z3,z4,z5,z6⟩:=aq.o.facts;have z7:=aq.o.lt;obtain⟨y1,y2,y3,y4,y5,y6⟩:=av.o.facts;go_wp2;refine zm (v:=.tuple #[.agg #[.bool false,.string ⟨#[]⟩,.string ⟨#[]⟩],.int .i64 2]) (by simp[results,results86,go_sem,z1,z2,z3]) rfl ⟨rfl,?_⟩
  repeat refine yH ?_ (by simp only[];omega) _
  exact ar.o
  )
theorem Od(j k m cap2:Nat)(xg fg sg r1 r2:Bool)(xn xd fn fd sn sd n1 d1 n2 d2:ByteArray)(E:Int)(fb vb c:Nat)(w:World)(hE:Env w)(hj:j<m)
 (hs:SAt w fb vb c (k*3+j*3) fg fn fd (.slice (some ⟨c,k*3,none⟩) m cap2) sg sn sd)
 (km:∀W,Env W->Calls prog 51 #[.agg #[.bool fg,.string fn,.string fd],.agg #[.bool sg,.string sn,.string sd]] W fun e w'=>e=.returned (.tuple #[.agg #[.bool r1,.string n1,.string d1],.int .i64 0])/\Below W.heap.size W w')
 (ks:∀W,Env W->Calls prog 87 #[.agg #[.bool xg,.string xn,.string xd],.agg #[.bool r1,.string n1,.string d1]] W fun e w'=>e=.returned (.tuple #[.agg #[.bool r2,.string n2,.string d2],.int .i64 E])/\Below W.heap.size W w'):
 Calls prog 86 #[.int .i64 (j:Int),.agg #[.bool xg,.string xn,.string xd],.pointer (some ⟨fb,0,none⟩),.pointer (some ⟨vb,0,none⟩)] w fun e w'=>e=.returned (.tuple #[.agg #[.bool r2,.string n2,.string d2],.int .i64 E])/\Below w.heap.size w w':=by
 have ai:Hid (B3 ((w.alloc (.cells #[.bool xg,.string xn,.string xd] 48)).alloc (.cells #[.bool false,.string ⟨#[]⟩,.string ⟨#[]⟩] 48)) w.heap.size xg xn xd):=(B3.new w _ _ _).alloc _
 have aj:Hid (B3 ((w.alloc (.cells #[.bool xg,.string xn,.string xd] 48)).alloc (.cells #[.bool false,.string ⟨#[]⟩,.string ⟨#[]⟩] 48)) (w.heap.size+1) false ⟨#[]⟩ ⟨#[]⟩):=by
  have h:=B3.new (w.alloc (.cells #[.bool xg,.string xn,.string xd] 48)) false ⟨#[]⟩ ⟨#[]⟩
  rwa [show (w.alloc (.cells #[.bool xg,.string xn,.string xd] 48)).heap.size=w.heap.size+1 by simp]at h
 have q0:=zh ((hs.alloc (.cells #[.bool xg,.string xn,.string xd] 48)).alloc (.cells #[.bool false,.string ⟨#[]⟩,.string ⟨#[]⟩] 48));have ad:Hid (Below w.heap.size w ((w.alloc (.cells #[.bool xg,.string xn,.string xd] 48)).alloc (.cells #[.bool false,.string ⟨#[]⟩,.string ⟨#[]⟩] 48))):=((zI _ w).alloc (zB _) _).alloc (by simp) _;obtain⟨W0,ah⟩:∃W,W=(w.alloc (.cells #[.bool xg,.string xn,.string xd] 48)).alloc (.cells #[.bool false,.string ⟨#[]⟩,.string ⟨#[]⟩] 48):=⟨_,rfl⟩;rw[<-ah]at ai aj q0 ad;have i0:(0:Int)<=(j:Int):=by omega
 have i1:(j:Int)<(m:Int):=by omega
 replace ah:=zh ah;replace hE:=zh hE;replace km:=zh km;replace ks:=zh ks;clear hs;go_enter func86,ntmps86
 go_wp2_with fail
 rw[<-ah.o];have q0d:Hid (SAt (W0.alloc (.cells #[.bool false,.string ⟨#[]⟩,.string ⟨#[]⟩] 48)).drew fb vb c (k*3+j*3) fg fn fd (.slice (some ⟨c,k*3,none⟩) m cap2) sg sn sd):=q0.o.alloc _;have x0d:Hid (B3 (W0.alloc (.cells #[.bool false,.string ⟨#[]⟩,.string ⟨#[]⟩] 48)).drew W0.heap.size false ⟨#[]⟩ ⟨#[]⟩):=B3.new W0 _ _ _;have ao:Hid (B3 (W0.alloc (.cells #[.bool false,.string ⟨#[]⟩,.string ⟨#[]⟩] 48)).drew w.heap.size xg xn xd):=ai.o.alloc _;have aq:Hid (B3 (W0.alloc (.cells #[.bool false,.string ⟨#[]⟩,.string ⟨#[]⟩] 48)).drew (w.heap.size+1) false ⟨#[]⟩ ⟨#[]⟩):=aj.o.alloc _;have ae:Hid (Below w.heap.size w (W0.alloc (.cells #[.bool false,.string ⟨#[]⟩,.string ⟨#[]⟩] 48)).drew):=(ad.o.alloc ad.o.size _).drew;have q0e:Hid (SAt W0.drew fb vb c (k*3+j*3) fg fn fd (.slice (some ⟨c,k*3,none⟩) m cap2) sg sn sd):=q0.o;have ap:Hid (B3 W0.drew w.heap.size xg xn xd):=ai.o;have ar:Hid (B3 W0.drew (w.heap.size+1) false ⟨#[]⟩ ⟨#[]⟩):=aj.o;have af:Hid (Below w.heap.size w W0.drew):=ad.o.drew;have ab:Hid (fb≠W0.heap.size/\vb≠W0.heap.size/\c≠W0.heap.size/\w.heap.size≠W0.heap.size/\w.heap.size+1≠W0.heap.size):=⟨yu q0.o.1.lt,yu q0.o.2.1.lt,yu q0.o.2.2.1,yu ai.o.lt,yu aj.o.lt⟩;obtain⟨a1,a2,a3,b1,c1,c2,c3⟩:=q0.o.seven
 go_region_held3 (fun w'=>w'.cell? ⟨fb,0,none⟩=some (.bool fg)/\w'.cell? ⟨fb,1,none⟩=some (.string fn)/\w'.cell? ⟨fb,2,none⟩=some (.string fd)/\w'.cell? ⟨vb,0,none⟩=some (.slice (some ⟨c,k*3,none⟩) m cap2)/\w'.cell? ⟨c,k*3+j*3,none⟩=some (.bool sg)/\w'.cell? ⟨c,k*3+j*3+1,none⟩=some (.string sn)/\w'.cell? ⟨c,k*3+j*3+2,none⟩=some (.string sd)) (first|(with_reducible exact q0.o.seven)|(with_reducible exact(q0.o.alloc _).seven)|(with_reducible exact q0d.o.seven)|(with_reducible exact q0e.o.seven)|(with_reducible exact q2.o.seven)|(with_reducible exact(q2.o.alloc _).seven)|(with_reducible exact q2.o.seven_set ab.o.1 ab.o.2.1 ab.o.2.2.1 _ _ _)|go_keep)
  (first
    |(go_at_call 51;refine(km.o _ ?_).mono ?_;(with_reducible exact hE.o.below ae.o);rintro e w2 ⟨rfl,d⟩;have q2:=zh (q0d.o.below d);have ag:=ae.t d;have x2:=zh (x0d.o.below d);have al:=zh (ao.o.below d);have am:=zh (aq.o.below d);obtain⟨y1,y2,y3,y4,y5,y6⟩:=x2.o.facts;have y7:=x2.o.lt;clear d)
    |(go_at_call 51;refine(km.o _ ?_).mono ?_;(with_reducible exact hE.o.below af.o);rintro e w2 ⟨rfl,d⟩;have q2:=zh (q0e.o.below d);have ag:=af.t d;have al:=zh (ap.o.below d);have am:=zh (ar.o.below d);clear d))
 all_goals (
  skip
  first
   |(obtain⟨w3,aa⟩:∃W,W=w2.alloc (.cells #[.bool r1,.string n1,.string d1] 48):=⟨_,rfl⟩;rw[<-aa];have au:Hid (B3 w3 w.heap.size xg xn xd):=(by rw[aa];exact al.o.alloc _);have an:Hid (B3 w3 (w.heap.size+1) false ⟨#[]⟩ ⟨#[]⟩):=(by rw[aa];exact am.o.alloc _);have av:Hid (B3 w3 w2.heap.size r1 n1 d1):=(by rw[aa];exact B3.new w2 _ _ _);have ak:Hid (Below w.heap.size w w3):=(by rw[aa];exact ag.o.alloc ag.o.size _))
   |(obtain⟨w3,aa⟩:∃W,W=((w2.setCell ⟨W0.heap.size,0,none⟩ (.bool r1)).setCell ⟨W0.heap.size,1,none⟩ (.string n1)).setCell ⟨W0.heap.size,2,none⟩ (.string d1):=⟨_,rfl⟩;rw[<-aa];have au:Hid (B3 w3 w.heap.size xg xn xd):=(by rw[aa];exact((al.o.other ab.o.2.2.2.1 _).other ab.o.2.2.2.1 _).other ab.o.2.2.2.1 _);have an:Hid (B3 w3 (w.heap.size+1) false ⟨#[]⟩ ⟨#[]⟩):=(by rw[aa];exact((am.o.other ab.o.2.2.2.2 _).other ab.o.2.2.2.2 _).other ab.o.2.2.2.2 _);have av:Hid (B3 w3 W0.heap.size r1 n1 d1):=(by rw[aa];exact((x2.o.set0 r1).set1 n1).set2 d1);have ak:Hid (Below w.heap.size w w3):=(by rw[aa];exact((ag.o.setCell ad.o.size _).setCell ad.o.size _).setCell ad.o.size _);clear x2 y1 y2 y3 y4 y5 y6 y7)
  clear aa q2 ag al am q0 q0d q0e x0d ai aj ao aq ap ar ad ae af ab ah a1 a2 a3 b1 c1 c2 c3 km i0 i1;obtain⟨x1,x2,x3,x4,x5,x6⟩:=au.o.facts;obtain⟨z1,z2,z3,z4,z5,z6⟩:=an.o.facts;have z7:=an.o.lt;obtain⟨y1,y2,y3,y4,y5,y6⟩:=av.o.facts
  go_wp2_with fail
  refine(ks.o _ (hE.o.below ak.o)).q fun w4 hb=>?_;have aw:=zh (an.o.below hb);have ax:=ak.t hb;clear hb x1 x2 x3 x4 x5 x6 y1 y2 y3 y4 y5 y6 z1 z2 z3 z4 z5 z6 z7;obtain⟨z1,z2,z3,z4,z5,z6⟩:=aw.o.facts;have z7:=aw.o.lt;go_wp2;refine zm (v:=.tuple #[.agg #[.bool r2,.string n2,.string d2],.int .i64 E]) (by simp[results,results86,go_sem,z1,z2,z3]) rfl ⟨rfl,?_⟩
  repeat refine yH ?_ (by simp only[];omega) _
  exact ax.o
  )
theorem Jt(j k m cap2:Nat)(q f s:Rat)(hf:ShortQ f)(hs:ShortQ s)(hq:ShortQ q)(d:ShortQ (f*s))(fb vb c:Nat)(w:World)(hE:Env w)(hj:j<m)
 (h:SAt w fb vb c (k*3+j*3) (rq f).1 (rq f).2.1 (rq f).2.2 (.slice (some ⟨c,k*3,none⟩) m cap2) (rq s).1 (rq s).2.1 (rq s).2.2):
 Calls prog 86 #[.int .i64 (j:Int),qv q,.pointer (some ⟨fb,0,none⟩),.pointer (some ⟨vb,0,none⟩)] w fun e w'=>e=.returned (.tuple #[qv (q-f*s),.int .i64 0])/\Below w.heap.size w w' :=
 Od j k m cap2 _ _ _ _ _ _ _ _ _ _ _ _ _ _ _ _ fb vb c w hE hj h (fun W hW=>Gx f s hf hs W hW) (fun W hW=>Jm q (f*s) hq d W hW)
theorem Pq(j k m cap2:Nat)(q f s:Rat)(hf:OkQ f)(hs:OkQ s)(hq:OkQ q)(d:¬(ShortQ f/\ShortQ s/\ShortQ q/\ShortQ (f*s)))(fb vb c:Nat)(w:World)(hE:Env w)(hj:j<m)
 (h:SAt w fb vb c (k*3+j*3) (rq f).1 (rq f).2.1 (rq f).2.2 (.slice (some ⟨c,k*3,none⟩) m cap2) (rq s).1 (rq s).2.1 (rq s).2.2):
 Calls prog 86 #[.int .i64 (j:Int),qv q,.pointer (some ⟨fb,0,none⟩),.pointer (some ⟨vb,0,none⟩)] w fun e w'=>e=.returned (.tuple #[zv,.int .i64 2])/\Below w.heap.size w w':=by
 by_cases h1:ShortQ f/\ShortQ s
 .exact Od j k m cap2 _ _ _ _ _ _ _ _ _ _ _ _ _ _ _ _ fb vb c w hE hj h (fun W hW=>Gx f s h1.1 h1.2 W hW) (fun W hW=>Ro q (f*s) hq (Up h1.1 h1.2) (fun h2=>d ⟨h1.1,h1.2,h2.1,h2.2⟩) W hW)
 exact sub4_er j k m cap2 _ _ _ _ _ _ _ _ _ fb vb c w hE hj h (fun W hW=>Rp f s hf hs h1 W hW)
end Nt
end
section
open Go.RowKit Go.Shelf
namespace Nt
theorem MT(B b k N cap:Nat)(r:Nat->Rat)(f:Rat)(s:Nat->Rat)(fb vb c cap2:Nat)(w:World)(hE:EnvB B w)(hB:B<=b)(hR:RowB w b N fun j=>rq (r j))(hk:k<=N)(hN:N<=1000)(hf:B3 w fb (rq f).1 (rq f).2.1 (rq f).2.2)(aj:fb≠b)(hv:Blk1 w vb (.slice (some ⟨c,k*3,none⟩) (N-k) cap2))(al:vb≠b)(hS:RowB w c N fun j=>rq (s j))(ah:c≠b)(ak:∀j,k<=j->j<N->ShortQ f/\ShortQ (s j)/\ShortQ (r j)/\ShortQ (f*s j)):
 Calls prog 83 #[.slice (some ⟨b,k*3,none⟩) ((N-k:Nat):Nat) cap,.func (.func 86) #[] #[.pointer (some ⟨fb,0,none⟩),.pointer (some ⟨vb,0,none⟩)]] w fun e w'=>e=.returned (.int .i64 0)/\w.grownBy w' (some b)/\RowB w' b N fun j=>rq (if k<=j then r j-f*s j else r j):=by
 have am:=zh (zS hB (xW hR.lt));obtain⟨m,hm⟩:∃m,m=N-k:=⟨_,rfl⟩;rw[<-hm]at hv ⊢;replace hB:=zh hB;replace hE:=zh hE;replace hR:=zh hR;replace ak:=zh ak;replace hf:=zh hf;replace aj:=zh aj;replace hv:=zh hv;replace al:=zh al;replace hS:=zh hS;replace ah:=zh ah;have HM:Hid (k+m=N):=by show k+m=N;omega
 have av:m<=1000:=by omega
 clear hm hk hN;go_enter func83,ntmps83;go_wp2
 go_loopw [11] (fun i wr=>∃y:Nat,y<=m/\i=.int .i64 (y:Int)/\Hid (w.grownBy wr (some b))/\Hid (RowB wr b N fun j=>rq (if k<=j/\j<k+y then r j-f*s j else r j))) (fun i _=>m-(intOf i).toNat)
 case atStart=>exact⟨0,zQ _,rfl,Ek _ _,hR.o.congr fun j _=>by rw[zC (by omega)]⟩
 case round=>
  obtain⟨i,hi,rfl,hG,ab⟩:=hrel
  by_cases hlt:i<m
  .have af:k+i<N:=by have:=HM.o;omega
   have aa:=ab.o.cell (j:=k+i) af;have ae:=ab.o.frozen;rw[zC (by omega),yS]at aa;have au:=ab.o.lt;obtain⟨xg,xn,xd,hx⟩:=CM (r (k+i));rw[hx]at aa;obtain⟨c1,c2,c3⟩:=aa;have f1:=ae (k*3+i*3);have f2:=ae (k*3+i*3+1);have f3:=ae (k*3+i*3+2);clear ae;have ag:=hS.o.grown hG.o (fun e=>ah.o (Option.some.inj e));have ai:=ag.cell (j:=k+i) af;rw[yS]at ai
   have aq:Hid (SAt (wr.alloc (.cells #[.bool xg,.string xn,.string xd] 48)) fb vb c (k*3+i*3) (rq f).1 (rq f).2.1 (rq f).2.2 (.slice (some ⟨c,k*3,none⟩) m cap2) (rq (s (k+i))).1 (rq (s (k+i))).2.1 (rq (s (k+i))).2.2) :=
    SAt.alloc ⟨hf.o.grown hG.o aj.o,hv.o.grown hG.o al.o,ag.lt,ai⟩ _
   clear ag ai;have ho:=ak.o (k+i) (by omega) (by omega);obtain⟨yg,yn,yd,hy⟩:=CM (r (k+i)-f*s (k+i));have kc:=fun W (h:Env W) h3=>Jt i k m cap2 (r (k+i)) f (s (k+i)) ho.1 ho.2.1 ho.2.2.1 ho.2.2.2 fb vb c W h (by omega) h3;rw[DB hx,DB hy]at kc;replace kc:=zh kc;replace hx:=zh hx;replace hy:=zh hy;clear ho;have ao:=zh (Ba hG.o hB.o am.o);have an:Hid (Below wr.heap.size wr (wr.alloc (.cells #[.bool xg,.string xn,.string xd] 48))):=AR _ _
   go_wp2_with fail
   refine(kc.o _ ((hE.o.below (ao.o.trans (an.o.mono (zS am.o hG.o.size)))).env) aq.o).q fun w1 hb=>?_;have ap:=zh (A8 (A8 hG.o an.o) hb);have d:=zh ((ab.o.alloc (.cells #[.bool xg,.string xn,.string xd] 48)).below hb (by simp;omega));clear hb c1 c2 c3 f1 f2 f3;have aa:=d.o.cell (j:=k+i) af;rw[zC (by omega),yS,hx.o]at aa;obtain⟨c1,c2,c3⟩:=aa;have f1:=d.o.frozen (k*3+i*3);have f2:=d.o.frozen (k*3+i*3+1);have f3:=d.o.frozen (k*3+i*3+2);have ar:=d.o.lt;have ad:=d.o.set af (yg,yn,yd);rw[yS]at ad
   replace ad:=zh (ad.congr (s:=fun j=>rq (if k<=j/\j<k+(i+1) then r j-f*s j else r j)) fun j hj=>by
    by_cases e:j=k+i
    .rw[zD e,zD (by omega),e,hy.o]
    rw[zC e]
    by_cases h1:k<=j/\j<k+i
    .rw[zD h1,zD (by omega)]
    rw[zC h1,zC (by omega)])
   go_wp2
   go_roundw
   case rel=>exact⟨i+1,by omega,by go_num,A8 (Au (Au (Au ap.o _ _) _ _) _ _) (AR _ _),ad.o.alloc _⟩
   case measure=>simp[intOf];omega
  obtain rfl:i=m:=by omega
  go_wp2;go_ret
  exact ⟨rfl,hG.o,ab.o.congr fun j hj=>by
   by_cases h1:k<=j
   .rw[zD h1,zD ⟨h1,by have:=HM.o;omega⟩]
   rw[zC h1,zC fun h=>h1 h.1]⟩
theorem MU(B b k N cap:Nat)(r:Nat->Rat)(f:Rat)(s:Nat->Rat)(fb vb c cap2:Nat)(w:World)(hE:EnvB B w)(hB:B<=b)(hR:RowB w b N fun j=>rq (r j))(hk:k<=N)(hN:N<=1000)(hf:B3 w fb (rq f).1 (rq f).2.1 (rq f).2.2)(am:fb≠b)(hv:Blk1 w vb (.slice (some ⟨c,k*3,none⟩) (N-k) cap2))(an:vb≠b)(hS:RowB w c N fun j=>rq (s j))(al:c≠b)(t:Nat)(az:k<=t)(aC:t<N)(av:∀j,k<=j->j<t->ShortQ f/\ShortQ (s j)/\ShortQ (r j)/\ShortQ (f*s j))(aj:¬(ShortQ f/\ShortQ (s t)/\ShortQ (r t)/\ShortQ (f*s t)))(aq:∀j,k<=j->j<N->OkQ (r j)/\OkQ (s j))(ar:OkQ f):
 Calls prog 83 #[.slice (some ⟨b,k*3,none⟩) ((N-k:Nat):Nat) cap,.func (.func 86) #[] #[.pointer (some ⟨fb,0,none⟩),.pointer (some ⟨vb,0,none⟩)]] w fun e w'=>e=.returned (.int .i64 2)/\w.grownBy w' (some b):=by
 have ak:=zh (zS hB (xW hR.lt));obtain⟨m,hm⟩:∃m,m=N-k:=⟨_,rfl⟩;rw[<-hm]at hv ⊢;replace hB:=zh hB;replace hE:=zh hE;replace hR:=zh hR;replace av:=zh av;replace hf:=zh hf;replace am:=zh am;replace hv:=zh hv;replace an:=zh an;replace hS:=zh hS;replace al:=zh al;replace aj:=zh aj;replace aq:=zh aq;replace ar:=zh ar;have HM:Hid (k+m=N):=by show k+m=N;omega
 have aB:m<=1000:=by omega
 clear hm hk hN;go_enter func83,ntmps83;go_wp2
 go_loopw [11] (fun i wr=>∃y:Nat,y<=t-k/\i=.int .i64 (y:Int)/\Hid (w.grownBy wr (some b))/\Hid (RowB wr b N fun j=>rq (if k<=j/\j<k+y then r j-f*s j else r j))) (fun i _=>m-(intOf i).toNat)
 case atStart=>exact⟨0,zQ _,rfl,Ek _ _,hR.o.congr fun j _=>by rw[zC (by omega)]⟩
 case round=>
  obtain⟨i,hi,rfl,hG,ab⟩:=hrel;have aA:i<m:=by have:=HM.o;omega
  by_cases he:i<t-k
  .have ae:k+i<N:=by have:=HM.o;omega
   have d:=ab.o.cell (j:=k+i) ae;have ad:=ab.o.frozen;rw[zC (by omega),yS]at d;have aw:=ab.o.lt;obtain⟨xg,xn,xd,hx⟩:=CM (r (k+i));rw[hx]at d;obtain⟨c1,c2,c3⟩:=d;have f1:=ad (k*3+i*3);have f2:=ad (k*3+i*3+1);have f3:=ad (k*3+i*3+2);clear ad;have af:=hS.o.grown hG.o (fun e=>al.o (Option.some.inj e));have ag:=af.cell (j:=k+i) ae;rw[yS]at ag
   have au:Hid (SAt (wr.alloc (.cells #[.bool xg,.string xn,.string xd] 48)) fb vb c (k*3+i*3) (rq f).1 (rq f).2.1 (rq f).2.2 (.slice (some ⟨c,k*3,none⟩) m cap2) (rq (s (k+i))).1 (rq (s (k+i))).2.1 (rq (s (k+i))).2.2) :=
    SAt.alloc ⟨hf.o.grown hG.o am.o,hv.o.grown hG.o an.o,af.lt,ag⟩ _
   clear af ag;have ho:=av.o (k+i) (by omega) (by omega);obtain⟨yg,yn,yd,hy⟩:=CM (r (k+i)-f*s (k+i));have kc:=fun W (h:Env W) h3=>Jt i k m cap2 (r (k+i)) f (s (k+i)) ho.1 ho.2.1 ho.2.2.1 ho.2.2.2 fb vb c W h (by omega) h3;rw[DB hx,DB hy]at kc;replace kc:=zh kc;replace hx:=zh hx;replace hy:=zh hy;clear ho;have ao:=zh (Ba hG.o hB.o ak.o);have ai:Hid (Below wr.heap.size wr (wr.alloc (.cells #[.bool xg,.string xn,.string xd] 48))):=AR _ _
   go_wp2_with fail
   refine(kc.o _ ((hE.o.below (ao.o.trans (ai.o.mono (zS ak.o hG.o.size)))).env) au.o).q fun w1 hb=>?_;have ap:=zh (A8 (A8 hG.o ai.o) hb);have aa:=zh ((ab.o.alloc (.cells #[.bool xg,.string xn,.string xd] 48)).below hb (by simp;omega));clear hb c1 c2 c3 f1 f2 f3;have d:=aa.o.cell (j:=k+i) ae;rw[zC (by omega),yS,hx.o]at d;obtain⟨c1,c2,c3⟩:=d;have f1:=aa.o.frozen (k*3+i*3);have f2:=aa.o.frozen (k*3+i*3+1);have f3:=aa.o.frozen (k*3+i*3+2);have ay:=aa.o.lt;have ah:=aa.o.set ae (yg,yn,yd);rw[yS]at ah
   replace ah:=zh (ah.congr (s:=fun j=>rq (if k<=j/\j<k+(i+1) then r j-f*s j else r j)) fun j hj=>by
    by_cases e:j=k+i
    .rw[zD e,zD (by omega),e,hy.o]
    rw[zC e]
    by_cases h1:k<=j/\j<k+i
    .rw[zD h1,zD (by omega)]
    rw[zC h1,zC (by omega)])
   go_wp2
   go_roundw
   case rel=>exact⟨i+1,by omega,by go_num,A8 (Au (Au (Au ap.o _ _) _ _) _ _) (AR _ _),ah.o.alloc _⟩
   case measure=>simp[intOf];omega
  have ax:k+i=t:=by omega
  obtain rfl:=ax;clear he hi;have ae:k+i<N:=by have:=HM.o;omega
  have d:=ab.o.cell (j:=k+i) ae;have ad:=ab.o.frozen;rw[zC (by omega),yS]at d;have aw:=ab.o.lt;obtain⟨xg,xn,xd,hx⟩:=CM (r (k+i));rw[hx]at d;obtain⟨c1,c2,c3⟩:=d;have f1:=ad (k*3+i*3);have f2:=ad (k*3+i*3+1);have f3:=ad (k*3+i*3+2);clear ad;have af:=hS.o.grown hG.o (fun e=>al.o (Option.some.inj e));have ag:=af.cell (j:=k+i) ae;rw[yS]at ag
  have au:Hid (SAt (wr.alloc (.cells #[.bool xg,.string xn,.string xd] 48)) fb vb c (k*3+i*3) (rq f).1 (rq f).2.1 (rq f).2.2 (.slice (some ⟨c,k*3,none⟩) m cap2) (rq (s (k+i))).1 (rq (s (k+i))).2.1 (rq (s (k+i))).2.2) :=
   SAt.alloc ⟨hf.o.grown hG.o am.o,hv.o.grown hG.o an.o,af.lt,ag⟩ _
  clear af ag;have hO:=aq.o (k+i) (by omega) ae;have kc:=fun W (h:Env W) h3=>Pq i k m cap2 (r (k+i)) f (s (k+i)) ar.o hO.2 hO.1 aj.o fb vb c W h (by omega) h3;rw[DB hx]at kc;simp only[zv]at kc;clear hO;replace kc:=zh kc;replace hx:=zh hx;have ao:=zh (Ba hG.o hB.o ak.o);have ai:Hid (Below wr.heap.size wr (wr.alloc (.cells #[.bool xg,.string xn,.string xd] 48))):=AR _ _
  go_wp2_with fail
  refine(kc.o _ ((hE.o.below (ao.o.trans (ai.o.mono (zS ak.o hG.o.size)))).env) au.o).q fun w1 hb=>?_;have ap:=zh (A8 (A8 hG.o ai.o) hb);clear hb c1 c2 c3 f1 f2 f3;go_wp2;go_ret;exact⟨rfl,A8 ap.o (AR _ _)⟩
def Int1(W:World)(b:Nat)(z:Int):Prop:=W.heap[b]? = some (.cells #[.int .i64 z] 3 (0,0))
section
variable {W W':World} {b:Nat} {z:Int}
theorem Int1.lt(h:Int1 W b z):b<W.heap.size:=(Array.getElem?_eq_some_iff.1 h).1
theorem Int1.cell(h:Int1 W b z):W.cell? ⟨b,0,none⟩=some (.int .i64 z):=by unfold Int1 at h;simp[World.cell?,h]
theorem Int1.grown{c:Nat}(h:Int1 W b z)(hg:W.grownBy W' (some c))(d:b≠c):Int1 W' b z:=(hg.block b h.lt (fun e=>d (Option.some.inj e))).trans h
theorem Int1.alloc(h:Int1 W b z)(o:Obj):Int1 (W.alloc o) b z:=(yM W o b h.lt).trans h
theorem Int1.below(h:Int1 W b z)(hb:Below W.heap.size W W'):Int1 W' b z:=(hb.block b h.lt).trans h
theorem Int1.new(w:World)(z:Int):Int1 (w.alloc (.cells #[.int .i64 z] 3)) w.heap.size z:=yR _ _
theorem Int1.far(h:Int1 W b z){p:Addr}(hp:b≠p.block)(v:Value):Int1 (W.setCell p v) b z:=(ze _ _ _ _ hp).trans h
theorem Int1.ne_row{c m:Nat}{r:Nat->Raw}(h:Int1 W b z)(h2:RowB W c m r):b≠c:=by
 rintro rfl;unfold Int1 at h;unfold RowB at h2;rw[h]at h2;injection h2 with h2;injection h2 with _ h3;exact absurd h3 (by decide)
theorem B3.ne_row{c m:Nat}{r:Nat->Raw}{g:Bool}{n d:ByteArray}(h:B3 W b g n d)(h2:RowB W c m r)(hm:m≠1):b≠c:=by
 rintro rfl;unfold B3 at h;unfold RowB at h2;rw[h]at h2;injection h2 with h2;injection h2 with h3 _;have h4:=congrArg Array.size h3;simp[AE]at h4;omega
theorem Blk1.ne_row{c m:Nat}{r:Nat->Raw}{v:Value}(h:Blk1 W b v)(h2:RowB W c m r):b≠c:=by
 rintro rfl;unfold Blk1 at h;unfold RowB at h2;rw[h]at h2;injection h2 with h2;injection h2 with _ h3;exact absurd h3 (by decide)
end
def rowOk(n:Nat)(l:List Raw):Bool:=decide (l.length=n)&&allV l
def D6(n:Nat)(l:List RowH):Bool:=l.all fun x=>rowOk n x.2.2
theorem MV(n:Nat)(A:Option Addr)(cap:Nat)(l:List Raw)(nb:Nat)(w:World)(hE:Env w)(hn:Int1 w nb n)(hr:InRow w A l)(hl:l.length<=140737488355328)(hz:∀x∈l,EE x):
 Calls prog 79 #[.slice A l.length cap,.pointer (some ⟨nb,0,none⟩)] w fun e w'=>e=.returned (.bool (!rowOk n l))/\Below w.heap.size w w':=by
 have kv:=Dr A cap l w hE hr hl hz;have c1:=hn.cell;have c2:=hn.lt
 by_cases h:l.length=n
 .have e:(!rowOk n l)=!allV l:=by unfold rowOk;rw[zG h,vD]
  have h1:(!((l.length:Int)==(n:Int)))=false:=by rw[h];simp
  rw[e];generalize allV l=v at *;rw[<-h]at c1;replace h:=zh h;replace e:=zh e;go_enter func79,ntmps79
  go_wp2_with fail
  refine kv.q fun w1 hb=>?_;replace hb:=zh hb;go_wp2;go_ret;exact⟨rfl,hb.o⟩
 have e:(!rowOk n l)=true:=by unfold rowOk;rw[zH h,wY];rfl
 have h1:((l.length:Int)==(n:Int))=false:=by rw[zP];omega
 have h2:((l.length:Int) != (n:Int))=true:=by rw[zy];omega
 have h3:(l.length==n)=false:=by rw[zP];exact h
 have h4:¬l.length=n:=h;rw[e];clear kv e h;go_enter func79,ntmps79;go_wp2;go_ret;exact⟨rfl,zI _ _⟩
def Ko(n:Nat)(l:List RowH):Int:=if D6 n l then -1 else (l.findIdx fun x=>!rowOk n x.2.2:Nat)
theorem Uq{n:Nat}{l:List RowH}{k:Nat}(hk:k<l.length)(d:∀j (h:j<l.length),j<k->rowOk n l[j].2.2=true)(hb:rowOk n l[k].2.2=false):Ko n l=k:=by
 unfold Ko D6
 have h1:(l.all fun x=>rowOk n x.2.2)=false:=by
  rw[List.all_eq_false];exact⟨l[k],zN hk,by rw[hb];simp⟩
 rw[h1,zC (by simp)]
 congr 1
 rw[List.findIdx_eq hk];exact⟨by rw[hb];rfl,fun j hj=>by rw[d j (by omega) hj];rfl⟩
theorem RK{n:Nat}{l:List RowH}(d:∀j (h:j<l.length),j<l.length->rowOk n l[j].2.2=true):Ko n l=-1:=by
 unfold Ko D6;rw[zD];rw[wM];intro x hx;obtain⟨j,hj,rfl⟩:=zg hx;exact d j hj hj
theorem Ur(n:Nat)(l:List RowH):decide (0<=Ko n l)=!D6 n l:=by
 unfold Ko
 cases D6 n l
 .rw[zC (by simp)];simp
 rw[zD rfl];rfl
theorem RL(n:Nat)(A:Option Addr)(cap:Nat)(l:List RowH)(nb:Nat)(w:World)(hE:Env w)(hn:Int1 w nb n)(hr:InMat w A l)(hl:l.length<=140737488355328)(hz:∀x∈l,x.2.2.length<=140737488355328/\∀y∈x.2.2,EE y):
 Calls prog 80 #[.slice A l.length cap,.func (.func 79) #[] #[.pointer (some ⟨nb,0,none⟩)]] w
  fun e w'=>e=.returned (.int .i64 (Ko n l))/\Below w.heap.size w w':=by
 have HF:=zh (fun(k:Nat) (hk:k<l.length) h1 h2=>Uq (n:=n) (l:=l) hk h1 h2);have HA:=zh (RK (n:=n) (l:=l));generalize Ko n l=res at *;replace hE:=zh hE;replace hr:=zh hr;replace hz:=zh hz;replace hn:=zh hn;go_enter func80,ntmps80;go_wp2
 go_loopw [8] (fun i wr=>∃k:Nat,k<=l.length/\i=.int .i64 (k:Int)/\Hid (∀j (h:j<l.length),j<k->rowOk n l[j].2.2=true)/\Hid (Below w.heap.size w wr)) (fun i _=>l.length-(intOf i).toNat)
 case atStart=>exact⟨0,zQ _,rfl,fun j _ h=>absurd h (by omega),zI _ _⟩
 case round=>
  obtain⟨k,hk,rfl,aa,hB⟩:=hrel
  by_cases hlt:k<l.length
  .obtain ⟨b,off,rfl,hb,hc⟩:=(hr.o.below hB.o (zB _)) (by omega);obtain⟨c1,ab⟩:=hc k hlt;clear hc;have hx:=hz.o l[k] (zN hlt);have kv:=MV n l[k].1 l[k].2.1 l[k].2.2 nb wr (hE.o.below hB.o) (hn.o.below hB.o) ab hx.1 hx.2;have HK:=zh (HF.o k hlt aa.o)
   have HL:Hid (rowOk n l[k].2.2=true->∀j (h:j<l.length),j<k+1->rowOk n l[j].2.2=true):=fun hv j h hj=>by
    by_cases e:j=k
    .subst e;exact hv
    exact aa.o j h (by omega)
   generalize l[k]=x at *;obtain⟨xa,xc,xl⟩:=x;dsimp only at c1 kv HK HL;replace kv:=zh kv;have ae:=hx.1;dsimp only at ae;clear hx ab
   cases hv:rowOk n xl with
   |true=>
    have HL2:=zh (HL.o hv);rw[hv]at kv;clear HL HK hv
    go_wp2_with fail
    refine kv.o.q fun w1 d=>?_;have ad:=hB.t d;clear d;go_wp2
    go_roundw
    case rel=>exact⟨k+1,by omega,by go_num,HL2,ad⟩
    case measure=>simp[intOf];omega
   |false=>
    have HK2:=zh (HK.o hv);rw[hv]at kv;clear HL HK hv
    go_wp2_with fail
    refine kv.o.q fun w1 d=>?_;have ad:=hB.t d;clear d;go_wp2;go_ret;exact⟨by rw[HK2.o];rfl,ad.o⟩
  obtain rfl:k=l.length:=by omega
  have HE:=zh (HA.o aa.o);go_wp2;go_ret;exact⟨by rw[HE.o];rfl,hB.o⟩
theorem G1(n:Nat)(A:Option Addr)(cap:Nat)(l:List RowH)(nb:Nat)(w:World)(hE:Env w)(hn:Int1 w nb n)(hr:InMat w A l)(hl:l.length<=140737488355328)(hz:∀x∈l,x.2.2.length<=140737488355328/\∀y∈x.2.2,EE y):
 Calls prog 78 #[.slice A l.length cap,.func (.func 79) #[] #[.pointer (some ⟨nb,0,none⟩)]] w
  fun e w'=>e=.returned (.bool (!D6 n l))/\Below w.heap.size w w':=by
 have hi:=RL n A cap l nb w hE hn hr hl hz;have hg:=Ur n l;generalize Ko n l=i at *;generalize (!D6 n l)=v at *;replace hn:=zh hn;replace hr:=zh hr;replace hz:=zh hz;go_enter func78,ntmps78
 go_wp2_with fail
 refine hi.q fun w1 hb=>?_;replace hb:=zh hb;go_wp2;go_ret;exact⟨rfl,hb.o⟩
theorem Pr(k N cap b kb:Nat)(w:World)(aa:k<N)(hk:Int1 w kb k)(hb:b<w.heap.size)
 (e1:w.cell? ⟨b,k*3,none⟩=some (.bool false))(e2:w.cell? ⟨b,k*3+1,none⟩=some (.string ⟨#[48]⟩))(e3:w.cell? ⟨b,k*3+2,none⟩=some (.string ⟨#[49]⟩)):
 Calls prog 81 #[.slice (some ⟨b,0,none⟩) N cap,.pointer (some ⟨kb,0,none⟩)] w fun e w'=>e=.returned (.bool false)/\Below w.heap.size w w':=by
 have c1:=hk.cell;have h:=zh hk.lt;have i0:(0:Int)<=(k:Int):=by omega
 have i1:(k:Int)<(N:Int):=by omega
 have hc:Hid (w.cell? ⟨kb,0,none⟩=some (.int .i64 (k:Int))/\w.cell? ⟨b,k*3,none⟩=some (.bool false)/\w.cell? ⟨b,k*3+1,none⟩=some (.string ⟨#[48]⟩)/\w.cell? ⟨b,k*3+2,none⟩=some (.string ⟨#[49]⟩)):=⟨c1,e1,e2,e3⟩;have kz:=zh If;replace hb:=zh hb;clear hk;go_enter func81,ntmps81
 go_wp2_with fail
 go_region_held3 (fun w'=>w'.cell? ⟨kb,0,none⟩=some (.int .i64 (k:Int))/\w'.cell? ⟨b,k*3,none⟩=some (.bool false)/\w'.cell? ⟨b,k*3+1,none⟩=some (.string ⟨#[48]⟩)/\w'.cell? ⟨b,k*3+2,none⟩=some (.string ⟨#[49]⟩)) (first|(with_reducible exact hc.o)|(exact⟨(d.o.cell (p:=⟨kb,0,none⟩) h.o).trans hc.o.1,(d.o.cell (p:=⟨b,k*3,none⟩) hb.o).trans hc.o.2.1,(d.o.cell (p:=⟨b,k*3+1,none⟩) hb.o).trans hc.o.2.2.1,(d.o.cell (p:=⟨b,k*3+2,none⟩) hb.o).trans hc.o.2.2.2⟩)|go_keep)
  (first
    |(go_at_call 82;refine(kz.o _).q fun w1 d=>?_;replace d:Hid (Below w.heap.size w.drew w1):=d))
 all_goals (
  go_wp2;go_ret;exact⟨rfl,(zI _ w).drew.trans d.o⟩
  )
theorem MW(g:Bool)(x d:ByteArray)(k N cap b kb:Nat)(w:World)(ab:k<N)(hk:Int1 w kb k)(hb:b<w.heap.size)
 (e1:w.cell? ⟨b,k*3,none⟩=some (.bool g))(e2:w.cell? ⟨b,k*3+1,none⟩=some (.string x))(e3:w.cell? ⟨b,k*3+2,none⟩=some (.string d))(hz:(x.toList==[48])=false):
 Calls prog 81 #[.slice (some ⟨b,0,none⟩) N cap,.pointer (some ⟨kb,0,none⟩)] w fun e w'=>e=.returned (.bool true)/\Below w.heap.size w w':=by
 have c1:=hk.cell;have aa:=zh hk.lt;have i0:(0:Int)<=(k:Int):=by omega
 have i1:(k:Int)<(N:Int):=by omega
 have hc:Hid (w.cell? ⟨kb,0,none⟩=some (.int .i64 (k:Int))/\w.cell? ⟨b,k*3,none⟩=some (.bool g)/\w.cell? ⟨b,k*3+1,none⟩=some (.string x)/\w.cell? ⟨b,k*3+2,none⟩=some (.string d)):=⟨c1,e1,e2,e3⟩;have kz:=zh If;replace hb:=zh hb;clear hk;go_enter func81,ntmps81
 go_wp2_with fail
 go_region_held3 (fun w'=>w'.cell? ⟨kb,0,none⟩=some (.int .i64 (k:Int))/\w'.cell? ⟨b,k*3,none⟩=some (.bool g)/\w'.cell? ⟨b,k*3+1,none⟩=some (.string x)/\w'.cell? ⟨b,k*3+2,none⟩=some (.string d)) (first|(with_reducible exact hc.o)|(exact⟨(h.o.cell (p:=⟨kb,0,none⟩) aa.o).trans hc.o.1,(h.o.cell (p:=⟨b,k*3,none⟩) hb.o).trans hc.o.2.1,(h.o.cell (p:=⟨b,k*3+1,none⟩) hb.o).trans hc.o.2.2.1,(h.o.cell (p:=⟨b,k*3+2,none⟩) hb.o).trans hc.o.2.2.2⟩)|go_keep)
  (first
    |(go_at_call 82;refine(kz.o _).q fun w1 h=>?_;replace h:Hid (Below w.heap.size w.drew w1):=h))
 all_goals (
  go_wp2;go_ret;exact⟨rfl,(zI _ w).drew.trans h.o⟩
  )
end Nt
end
section
open Go.RowKit Go.Shelf
namespace Nt
structure MatW(W:World)(B R n:Nat)(bl:Nat->Nat)(M:Mx):Prop where
 lt:R<W.heap.size
 hd:∀i,i<n->W.cell? ⟨R,i,none⟩=some (.slice (some ⟨bl i,0,none⟩) (n+1) (n+1))
 fr:∀i,W.frozen? ⟨R,i,none⟩=false
 rows:∀i,i<n->RowB W (bl i) (n+1) fun j=>rq (M i j)
 inj:∀i j,i<n->j<n->bl i=bl j->i=j
 ne:∀i,i<n->bl i≠R
 lowR:B<=R
 low:∀i,i<n->B<=bl i
section
variable {W W':World} {B R n:Nat} {bl:Nat->Nat} {M:Mx}
theorem MatW.below(h:MatW W B R n bl M)(hb:Below W.heap.size W W'):MatW W' B R n bl M :=
 ⟨zJ h.lt hb.size,fun i hi=>(hb.cell (p:=⟨R,i,none⟩) h.lt).trans (h.hd i hi),fun i=>(hb.frozen (p:=⟨R,i,none⟩) h.lt).trans (h.fr i),
  fun i hi=>(h.rows i hi).below hb (h.rows i hi).lt,h.inj,h.ne,h.lowR,h.low⟩
theorem MatW.alloc(h:MatW W B R n bl M)(o:Obj):MatW (W.alloc o) B R n bl M:=h.below ((zI _ W).alloc (zB _) o)
theorem MatW.drew(h:MatW W B R n bl M):MatW W.drew B R n bl M:=⟨h.lt,h.hd,h.fr,h.rows,h.inj,h.ne,h.lowR,h.low⟩
theorem MatW.change(h:MatW W B R n bl M){k:Nat}(hk:k<n)(hg:W.grownBy W' (some (bl k))){M':Mx}(hr:RowB W' (bl k) (n+1) fun j=>rq (M' k j))(he:∀i,i<n->i≠k->M' i=M i):MatW W' B R n bl M':=by
 have hR:some R≠some (bl k):=fun e=>h.ne k hk (Option.some.inj e).symm;have hb:=hg.block R h.lt hR;refine⟨zJ h.lt hg.size,fun i hi=>(zT (a:=⟨R,i,none⟩) hb).trans (h.hd i hi),fun i=>(yF (a:=⟨R,i,none⟩) hb).trans (h.fr i),fun i hi=>?_,h.inj,h.ne,h.lowR,h.low⟩
 by_cases e:i=k
 .rw[e];exact hr
 rw[he i hi e];exact(h.rows i hi).grown hg fun e2=>e (h.inj i k hi hk (Option.some.inj e2))
def GS(k p:Nat)(bl:Nat->Nat):Nat->Nat:=fun i=>if i=k then bl p else if i=p then bl k else bl i
theorem MatW.swap(h:MatW W B R n bl M){k p:Nat}(hk:k<n)(hp:p<n):
 MatW ((W.setCell ⟨R,k,none⟩ (.slice (some ⟨bl p,0,none⟩) (n+1) (n+1))).setCell ⟨R,p,none⟩ (.slice (some ⟨bl k,0,none⟩) (n+1) (n+1))) B R n (GS k p bl) (By k p M):=by
 have far:∀i,i<n->∀x y v u,RowB ((W.setCell ⟨R,x,none⟩ v).setCell ⟨R,y,none⟩ u) (bl i) (n+1) fun j=>rq (M i j):=fun i hi x y v u=>((h.rows i hi).far (p:=⟨R,x,none⟩) (h.ne i hi) v).far (p:=⟨R,y,none⟩) (h.ne i hi) u;refine⟨by simpa using h.lt,fun i hi=>?_,fun i=>by simpa using h.fr i,fun i hi=>?_,fun i j hi hj e=>?_,fun i hi=>?_,h.lowR,fun i hi=>?_⟩
 .unfold GS
  have c1:(W.setCell ⟨R,k,none⟩ (.slice (some ⟨bl p,0,none⟩) (n+1) (n+1))).cell? ⟨R,i,none⟩=if i=k then some (.slice (some ⟨bl p,0,none⟩) (n+1) (n+1)) else some (.slice (some ⟨bl i,0,none⟩) (n+1) (n+1)):=by
   by_cases e:i=k
   .rw[zD e,e];exact yV W _ _ (h.hd k hk)
   rw[zC e,yD _ _ _ _ (by intro e2;injection e2 with _ e3;first|exact e e3|exact e e3.symm)];exact h.hd i hi
  by_cases e:i=p
  .subst e
   have:((W.setCell ⟨R,k,none⟩ (.slice (some ⟨bl i,0,none⟩) (n+1) (n+1))).setCell ⟨R,i,none⟩ (.slice (some ⟨bl k,0,none⟩) (n+1) (n+1))).cell? ⟨R,i,none⟩=some (.slice (some ⟨bl k,0,none⟩) (n+1) (n+1)) :=
    yV _ _ _ (by rw[c1];split<;>rfl)
   rw[this]
   by_cases e2:i=k
   .rw[zD e2,e2]
   rw[zC e2,zD rfl]
  rw[yD _ _ _ _ (by intro e2;injection e2 with _ e3;first|exact e e3|exact e e3.symm),c1]
  by_cases e2:i=k
  .rw[zD e2,zD e2]
  rw[zC e2,zC e2,zC e]
 .unfold GS By
  by_cases e1:i=k
  .simp only[zD e1];exact far p hp _ _ _ _
  by_cases e2:i=p
  .simp only[zC e1,zD e2];exact far k hk _ _ _ _
  simp only[zC e1,zC e2];exact far i hi _ _ _ _
 .unfold GS at e
  by_cases a1:i=k
  .rw[zD a1]at e
   by_cases b1:j=k
   .omega
   rw[zC b1]at e
   by_cases b2:j=p
   .rw[zD b2]at e;have:=h.inj p k hp hk e;omega
   rw[zC b2]at e;have:=h.inj p j hp hj e;omega
  rw[zC a1]at e
  by_cases a2:i=p
  .rw[zD a2]at e
   by_cases b1:j=k
   .rw[zD b1]at e;have:=h.inj k p hk hp e;omega
   rw[zC b1]at e
   by_cases b2:j=p
   .omega
   rw[zC b2]at e;have:=h.inj k j hk hj e;omega
  rw[zC a2]at e
  by_cases b1:j=k
  .rw[zD b1]at e;have:=h.inj i p hi hp e;omega
  rw[zC b1]at e
  by_cases b2:j=p
  .rw[zD b2]at e;have:=h.inj i k hi hk e;omega
  rw[zC b2]at e;exact h.inj i j hi hj e
 .unfold GS
  split
  .exact h.ne p hp
  split
  .exact h.ne k hk
  exact h.ne i hi
 unfold GS
 split
 .exact h.low p hp
 split
 .exact h.low k hk
 exact h.low i hi
end
theorem rq_zero:rq 0=(false,⟨#[48]⟩,⟨#[49]⟩):=by
 have h1:rq 0=(false,T (some 0),T (some 1)):=rfl;rw[h1,Rb,Vh]
theorem RM{q:Rat}(h:q≠0):((rq q).2.1.toList==[48])=false:=by
 show ((T (some q.num.natAbs)).toList==[48])=false
 rw[B8];have:=CI h;exact zH (by omega)
def IQ(n k:Nat)(M:Mx):Int:=match CP n k M (n-k) with|some p=>((p-k:Nat):Int)|none=>-1
theorem Us{n k i:Nat}{M:Mx}(hi:k+i<n)(h0:M (k+i) k≠0)(d:∀j,j<i->M (k+j) k=0):IQ n k M=i:=by
 unfold IQ
 rw [Ic (p:=k+i) (by omega) (by omega) hi h0 fun j h1 h2=>by
  have:=d (j-k) (by omega)
  rwa [show k+(j-k)=j by omega]at this]
 show ((k+i-k:Nat):Int)=i
 rw[Nat.add_sub_cancel_left]
theorem Ut{n k:Nat}{M:Mx}(d:∀j,j<n-k->M (k+j) k=0):IQ n k M=-1:=by
 unfold IQ
 rw [RE (by omega) fun j h1 h2=>by
  have:=d (j-k) (by omega)
  rwa [show k+(j-k)=j by omega]at this]
theorem RN(B R n k capR kb:Nat)(bl:Nat->Nat)(M:Mx)(w:World)(hk:k<n)(hn:n<=1000)(hM:MatW w B R n bl M)(ag:Int1 w kb k):
 Calls prog 80 #[.slice (some ⟨R,k,none⟩) (n-k) capR,.func (.func 81) #[] #[.pointer (some ⟨kb,0,none⟩)]] w
  fun e w'=>e=.returned (.int .i64 (IQ n k M))/\Below w.heap.size w w':=by
 have HF:=zh (fun(i:Nat) (hi:k+i<n) h0 h1=>Us (n:=n) (k:=k) (i:=i) (M:=M) hi h0 h1);have HA:=zh (Ut (n:=n) (k:=k) (M:=M));generalize IQ n k M=res at *;replace hM:=zh hM;replace ag:=zh ag;obtain⟨m,hm⟩:∃m,m=n-k:=⟨_,rfl⟩;rw[<-hm]at HA ⊢;have HM:Hid (k+m=n):=by show k+m=n;omega
 have al:m<=1000:=by omega
 clear hm hn;go_enter func80,ntmps80;go_wp2
 go_loopw [8] (fun i wr=>∃y:Nat,y<=m/\i=.int .i64 (y:Int)/\Hid (∀j,j<y->M (k+j) k=0)/\Hid (Below w.heap.size w wr)) (fun i _=>m-(intOf i).toNat)
 case atStart=>exact⟨0,zQ _,rfl,fun j h=>absurd h (by omega),zI _ _⟩
 case round=>
  obtain⟨i,hi,rfl,ad,hB⟩:=hrel
  by_cases hlt:i<m
  .have ah:k+i<n:=by have:=HM.o;omega
   have aa:=hM.o.below hB.o;have ae:=ag.o.below hB.o;have c1:=aa.hd (k+i) ah;have ak:=aa.lt;have d:=aa.rows (k+i) ah;obtain⟨e1,e2,e3⟩:=d.cell (j:=k) (by omega);have aj:=d.lt
   by_cases h0:M (k+i) k=0
   .rw [h0,rq_zero]at e1 e2 e3;have kc:=zh (Pr k (n+1) (n+1) (bl (k+i)) kb wr (by omega) ae aj e1 e2 e3)
    have ai:Hid (∀j,j<i+1->M (k+j) k=0):=fun j hj=>by
     by_cases e:j=i
     .rw[e];exact h0
     exact ad.o j (by omega)
    clear e1 e2 e3 h0 d aa ae
    go_wp2_with fail
    refine kc.o.q fun w1 ab=>?_;have af:=hB.t ab;clear ab;go_wp2
    go_roundw
    case rel=>exact⟨i+1,by omega,by go_num,ai,af⟩
    case measure=>simp[intOf];omega
   have hz:=RM h0;have kc:=zh (MW _ _ _ k (n+1) (n+1) (bl (k+i)) kb wr (by omega) ae aj e1 e2 e3 hz);have HE:=zh (HF.o i ah h0 ad.o);clear e1 e2 e3 h0 d aa ae hz
   go_wp2_with fail
   refine kc.o.q fun w1 ab=>?_;have af:=hB.t ab;clear ab;go_wp2;go_ret;exact⟨by rw[HE.o];rfl,af.o⟩
  obtain rfl:i=m:=by omega
  have HE:=zh (HA.o ad.o);go_wp2;go_ret;exact⟨by rw[HE.o];rfl,hB.o⟩
end Nt
end
section
open Go.RowKit Go.Shelf
namespace Nt
structure SysIn(w:World)(Aa Ab:Option Addr)(la:List RowH)(lb:List Raw):Prop where
 ma:InMat w Aa la
 mb:InRow w Ab lb
 na:la.length<=140737488355328
 nb:lb.length<=140737488355328
 za:∀x∈la,x.2.2.length<=140737488355328/\∀y∈x.2.2,EE y
 zb:∀x∈lb,EE x
theorem SysIn.below{w w':World}{Aa Ab:Option Addr}{la:List RowH}{lb:List Raw}(h:SysIn w Aa Ab la lb)(hb:Below w.heap.size w w'):SysIn w' Aa Ab la lb :=
 ⟨h.ma.below hb (zB _),h.mb.below hb (zB _),h.na,h.nb,h.za,h.zb⟩
abbrev nW(w:World)(n:Nat):World:=w.alloc (.cells #[.int .i64 (n:Int)] 3)
theorem B9(w:World)(n:Nat):Below w.heap.size w (nW w n):=AR _ _
theorem Ps(Aa Ab:Option Addr)(ca cb:Nat)(la:List RowH)(lb:List Raw)(w:World)(h:la.length≠lb.length)(hs:SysIn w Aa Ab la lb):
 Calls prog 39 #[.slice Aa la.length ca,.slice Ab lb.length cb] w fun e w'=>e=.returned (.tuple #[.slice none 0 0,.int .i64 1])/\Below w.heap.size w w':=by
 have h1:((la.length:Int)==(lb.length:Int))=false:=by rw[zP];omega
 have h2:((la.length:Int) != (lb.length:Int))=true:=by rw[zy];omega
 have h3:(la.length==lb.length)=false:=by rw[zP];exact h
 have h4:¬la.length=lb.length:=h;have n1:=hs.na;have n2:=hs.nb;clear h;replace hs:=zh hs;go_enter func39,ntmps39;go_wp2;go_ret2;exact⟨rfl,B9 _ _⟩
theorem RO(Aa Ab:Option Addr)(ca cb:Nat)(la:List RowH)(lb:List Raw)(w:World)(hE:Env w)(h:la.length=lb.length)(hs:SysIn w Aa Ab la lb)(hv:allV lb=false):
 Calls prog 39 #[.slice Aa la.length ca,.slice Ab lb.length cb] w fun e w'=>e=.returned (.tuple #[.slice none 0 0,.int .i64 1])/\Below w.heap.size w w':=by
 have n2:=hs.nb;rw[h];have kv:=Dr Ab cb lb (nW w lb.length) (hE.below (B9 _ _)) (hs.below (B9 _ _)).mb hs.nb hs.zb;rw[hv]at kv;replace kv:=zh kv;clear h hs hv hE;go_enter func39,ntmps39
 go_wp2_with fail
 refine kv.o.q fun w1 hb=>?_;have hB:=zh ((B9 w lb.length).trans (hb.mono (by simp)));clear hb;go_wp2;go_ret2;exact⟨rfl,hB.o⟩
theorem RP(Aa Ab:Option Addr)(ca cb:Nat)(la:List RowH)(lb:List Raw)(w:World)(hE:Env w)(h:la.length=lb.length)(hs:SysIn w Aa Ab la lb)(hv:allV lb=true)(hm:D6 lb.length la=false):
 Calls prog 39 #[.slice Aa la.length ca,.slice Ab lb.length cb] w fun e w'=>e=.returned (.tuple #[.slice none 0 0,.int .i64 1])/\Below w.heap.size w w':=by
 have n2:=hs.nb;have kv:=Dr Ab cb lb (nW w lb.length) (hE.below (B9 _ _)) (hs.below (B9 _ _)).mb hs.nb hs.zb;have ka:=fun W (h1:Env W) (h2:Int1 W w.heap.size lb.length) (h3:SysIn W Aa Ab la lb)=>G1 lb.length Aa ca la w.heap.size W h1 h2 h3.ma h3.na h3.za;rw[hv]at kv;rw[hm,h]at ka;rw[h];replace kv:=zh kv;replace ka:=zh ka;replace hs:=zh hs;replace hE:=zh hE;clear h hv hm;go_enter func39,ntmps39
 go_wp2_with fail
 refine kv.o.q fun w1 hb=>?_;have hB:=zh ((B9 w lb.length).trans (hb.mono (by simp)));have hn:=zh ((Int1.new w lb.length).below hb);clear hb
 go_wp2_with fail
 refine(ka.o _ (hE.o.below hB.o) hn.o (hs.o.below hB.o)).q fun w2 hb=>?_;have d:=hB.t hb;clear hb;go_wp2;go_ret2;exact⟨rfl,d.o⟩
theorem Pt(Aa Ab:Option Addr)(ca cb:Nat)(la:List RowH)(lb:List Raw)(w:World)(hE:Env w)(h:la.length=lb.length)(hs:SysIn w Aa Ab la lb)(hv:allV lb=true)(hm:D6 lb.length la=true)(ab:8<lb.length):
 Calls prog 39 #[.slice Aa la.length ca,.slice Ab lb.length cb] w fun e w'=>e=.returned (.tuple #[.slice none 0 0,.int .i64 2])/\Below w.heap.size w w':=by
 have n2:=hs.nb;have kv:=Dr Ab cb lb (nW w lb.length) (hE.below (B9 _ _)) (hs.below (B9 _ _)).mb hs.nb hs.zb;have ka:=fun W (h1:Env W) (h2:Int1 W w.heap.size lb.length) (h3:SysIn W Aa Ab la lb)=>G1 lb.length Aa ca la w.heap.size W h1 h2 h3.ma h3.na h3.za;rw[hv]at kv;rw[hm,h]at ka;rw[h];replace kv:=zh kv;replace ka:=zh ka;replace hs:=zh hs;replace hE:=zh hE;clear h hv hm;go_enter func39,ntmps39
 go_wp2_with fail
 refine kv.o.q fun w1 hb=>?_;have hB:=zh ((B9 w lb.length).trans (hb.mono (by simp)));have hn:=zh ((Int1.new w lb.length).below hb);clear hb
 go_wp2_with fail
 refine(ka.o _ (hE.o.below hB.o) hn.o (hs.o.below hB.o)).q fun w2 hb=>?_;have aa:=hB.t hb;have d:=hn.o.below hb;have c1:=d.cell;have c2:=d.lt;clear hb;go_wp2;go_ret2;exact⟨rfl,aa.o⟩
end Nt
end
end Go.Proofs.YtefmpngjjmddjaaGreatDoor

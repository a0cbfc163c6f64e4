/- Texts that the proof needs: CirPlain, CirComp, CirRank, CirStage, NatLib, NatPlain, NatDigits, NatIs, NatTrim, NatBack, NatFormat, NatText, NatSub, NatParse, NatAdd, NatCmp, NatSearch, NatMul, NatDiv. -/
import Derived.OrdersHeld
import Derived.Below
import Derived.WalkKit
import Derived.Test.YtilodknkildkbaaGreatDoorShelf
import Derived.Lib.SmallJoins
import Derived.Lib.QuietBelow
import Derived.WalkSmall
import Derived.Shelf.Strings.BuilderK
import Derived.Lib.ItoaNum
import Derived.Lib.ParseIntB
import Derived.Lib.SlTrimSet
import Derived.Outline
import Derived.Test.YtilodknkildkbaaGreatDoorProg
import Derived.BigQuiet
import Derived.Lib.Hide
import Derived.RangeFuncNested
import Derived.RangeFuncBound
import Derived.RangeFuncCalls
import Derived.RangeFuncLeaves
import Derived.Shelf.Abstract
import Derived.Shelf.RegionOpen
import Derived.OwnWalkIn
import Derived.TacticsInMore
import Derived.LoopNIn
import Derived.LoopIn
import Derived.Lib.ItoaMem
import Derived.Lib.OthersKept
import Derived.Deep.OwnRows
import Derived.Lib.IndexBytes
import Derived.Deep.RegionWith
import Derived.BigRegion
import Derived.Deep.RegionHeld3
set_option maxHeartbeats 2000000
set_option maxRecDepth 100000
namespace Go.Proofs.YtilodknkildkbaaGreatDoor
theorem zh{p:Prop}(h:p):Go.RowKit.Hid p:=h
theorem tk{P:Program}{md:Region.Mode}{ops:Array Oper}{Q:Exit->Act->World->Prop}{S:World->Prop}{oi:Oper}{v:Value}{fuel:Nat}{listed:Array Bool}{a:Act}{w:World}(i:Nat)(hS:S w)(hy:YieldsIf P ops S oi v a)(h:wpAnyH P md ops Q S fuel (listed.setIfInBounds i true) (a.put oi.dst v) w)(hi:ops[i]?=some oi:=by exact rfl)(hs:Region.noSelect ops=true:=by kernel_rfl)(hf:Region.free md ops listed i=true:=by kernel_rfl)(hr:(Region.ready md ops listed).contains i=true:=by kernel_rfl)(hQ:∀c a w,Q (.panic c) (a.put oi.dst v) w->Q (.panic c) a w:=by exact fun _ _ _ h=>h):wpAnyH P md ops Q S (fuel+1) listed a w:=wpAnyH_take hi hs hf hr hQ hy hS h
section
namespace Ci
inductive Way (E:List (Nat×Nat)):Nat->Nat->Nat->Prop
 | here (p:Nat):Way E p p 0
 | step {p q r k:Nat} (h:Way E p q k) (e:(q,r)∈E):Way E p r (k+1)
def Reach (E:List (Nat×Nat)) (p q:Nat):Prop:=∃k,Way E p q k
def Ft (E:List (Nat×Nat)) (F:List Nat) (p k:Nat):Prop:=∃f,f∈F/\Way E f p k
def InN (n:Nat) (E:List (Nat×Nat)):Prop:=∀x,x∈E->x.1<n/\x.2<n
section
variable {E:List (Nat×Nat)} {F:List Nat} {n p q r j k:Nat}
theorem Way.trans (h:Way E p q j) (h2:Way E q r k):Way E p r (j+k):=by
 induction h2 with
 | here=>exact h
 | step _ e ih=>exact ih.step e
theorem Way.one (e:(p,q)∈E):Way E p q 1:=(Way.here p).step e
theorem Way.zero (h:Way E p q 0):p=q:=by cases h;rfl
theorem Way.last (h:Way E p r (k+1)):∃q,Way E p q k/\(q,r)∈E:=by
 cases h with
 | step h e=>exact⟨_,h,e⟩
theorem Way.first (h:Way E p r (k+1)):∃q,(p,q)∈E/\Way E q r k:=by
 induction k generalizing r with
 | zero =>
   obtain⟨q,h1,e⟩:=h.last;obtain rfl:=h1.zero;exact⟨r,e,.here r⟩
 | succ k ih =>
   obtain⟨q,h1,e⟩:=h.last;obtain⟨x,e1,h2⟩:=ih h1;exact⟨x,e1,h2.step e⟩
theorem Way.lt (hE:InN n E) (h:Way E p q k) (hp:p<n):q<n:=by
 cases h with
 | here=>exact hp
 | step _ e=>exact(hE _ e).2
theorem Way.mono {E':List (Nat×Nat)} (hs:∀x,x∈E->x∈E') (h:Way E p q k):Way E' p q k:=by
 induction h with
 | here=>exact .here _
 | step _ e ih=>exact ih.step (hs _ e)
theorem Reach.refl (p:Nat):Reach E p p:=⟨0,.here p⟩
theorem Reach.trans (h:Reach E p q) (h2:Reach E q r):Reach E p r:=by
 obtain⟨j,a⟩:=h;obtain⟨k,b⟩:=h2;exact⟨_,a.trans b⟩
theorem Reach.one (e:(p,q)∈E):Reach E p q:=⟨1,.one e⟩
theorem Reach.lt (hE:InN n E) (h:Reach E p q) (hp:p<n):q<n:=by obtain⟨k,a⟩:=h;exact a.lt hE hp
theorem Reach.closed {C:Nat->Prop} (h:Reach E p q) (h0:C p) (hc:∀a b,C a->(a,b)∈E->C b):C q:=by
 obtain⟨k,a⟩:=h
 induction a with
 | here=>exact h0
 | step _ e ih=>exact hc _ _ ih e
theorem Dh:Ft E F p 0↔p∈F:=⟨fun⟨_,h,w⟩=>by rw[<-w.zero];exact h,fun h=>⟨p,h,.here p⟩⟩
theorem Di:Ft E F p (k+1)↔∃q,Ft E F q k/\(q,p)∈E:=by
 constructor
 · rintro⟨f,h,w⟩;obtain⟨q,a,e⟩:=w.last;exact⟨q,⟨f,h,a⟩,e⟩
 · rintro⟨q,⟨f,h,a⟩,e⟩;exact⟨f,h,a.step e⟩
def PT (E:List (Nat×Nat)) (F:List Nat) (p:Nat) (r:Int):Prop :=
 (r=-1/\∀k,¬Ft E F p k)∨∃k:Nat,r=(k:Int)/\Ft E F p k/\∀j,j<k->¬Ft E F p j
theorem Ks {P:Nat->Prop}:∀k,P k->∃j,j<=k/\P j/\∀i,i<j->¬P i:=by
 intro k
 induction k using Nat.strongRecOn with
 | ind k ih =>
   intro h
   by_cases h2:∃i,i<k/\P i
   · obtain⟨i,hi,hp⟩:=h2;obtain⟨j,h3,h4⟩:=ih i hi hp;exact⟨j,by omega,h4⟩
   · exact⟨k,Nat.le_refl _,h,fun i hi hp=>h2 ⟨i,hi,hp⟩⟩
theorem Nw (E:List (Nat×Nat)) (F:List Nat) (p:Nat):∃r,PT E F p r:=by
 by_cases h:∃k,Ft E F p k
 · obtain⟨k,hk⟩:=h;obtain⟨j,_,h1,h2⟩:=Ks k hk;exact⟨j,.inr ⟨j,rfl,h1,h2⟩⟩
 · exact⟨-1,.inl ⟨rfl,fun k hk=>h ⟨k,hk⟩⟩⟩
theorem PU {a b:Int} (h:PT E F p a) (h2:PT E F p b):a=b:=by
 rcases h with⟨rfl,h⟩ | ⟨k,rfl,h,hm⟩
 · rcases h2 with⟨rfl,_⟩ | ⟨j,rfl,h3,_⟩
   · rfl
   · exact absurd h3 (h j)
 · rcases h2 with⟨rfl,h3⟩ | ⟨j,rfl,h3,d⟩
   · exact absurd h (h3 k)
   · have h4:¬k<j:=fun c=>d k c h;have h5:¬j<k:=fun c=>hm j c h3;omega
noncomputable def rk (E:List (Nat×Nat)) (F:List Nat) (p:Nat):Int:=Classical.choose (Nw E F p)
theorem PV (E:List (Nat×Nat)) (F:List Nat) (p:Nat):PT E F p (rk E F p):=Classical.choose_spec (Nw E F p)
theorem Uy {a:Int} (h:PT E F p a):rk E F p=a:=PU (PV E F p) h
theorem PW (h:Ft E F p k):0<=rk E F p/\rk E F p<=k:=by
 rcases PV E F p with⟨_,h2⟩ | ⟨j,h1,_,h2⟩
 · exact absurd h (h2 k)
 · have:¬k<j:=fun c=>h2 k c h;omega
theorem L8 (h:rk E F p=k):Ft E F p k:=by
 rcases PV E F p with⟨h1,_⟩ | ⟨j,h1,h2,_⟩
 · omega
 · obtain rfl:j=k:=by omega
   exact h2
theorem ET:rk E F p=0↔p∈F:=by
 constructor
 · intro h;exact Dh.1 (L8 (k:=0) (by omega))
 · intro h;have:=PW (Dh.2 h:Ft E F p 0);omega
theorem J1 (h:0<=rk E F q) (e:(q,p)∈E):0<=rk E F p/\rk E F p<=rk E F q+1:=by
 obtain⟨k,hk⟩:∃k:Nat,rk E F q=k:=⟨(rk E F q).toNat,by omega⟩;have:=PW (Di.2 ⟨q,L8 hk,e⟩:Ft E F p (k+1));omega
theorem FB (h:rk E F p=((k+1:Nat):Int)):∃q,rk E F q=(k:Int)/\(q,p)∈E:=by
 obtain⟨q,h1,e⟩:=Di.1 (L8 h);have h2:=PW h1;have h3:=J1 h2.1 e;exact⟨q,by omega,e⟩
theorem Dj:∀(n:Nat) (l:List Nat),l.Nodup->(∀x,x∈l->x<n)->l.length<=n:=by
 intro n
 induction n with
 | zero =>
   intro l _ h
   cases l with
   | nil=>exact Nat.le_refl _
   | cons a l=>exact absurd (h a (List.mem_cons_self ..)) (Nat.not_lt_zero _)
 | succ n ih =>
   intro l hd h
   have h1:=ih (l.erase n) (hd.erase n) fun x hx=>by
    have h2:=(hd.mem_erase_iff).1 hx;have:=h x h2.2;omega
   by_cases hm:n∈l
   · rw[List.length_erase_of_mem hm]at h1;omega
   · rw[List.erase_of_not_mem hm]at h1;omega
theorem PX:∀(k:Nat) (p:Nat),rk E F p=(k:Int)->∃l:List Nat,l.length=k+1/\l.Nodup/\(∀x,x∈l->∃j:Nat,j<=k/\rk E F x=(j:Int))/\∀x,x∈l->x=p∨∃y,(x,y)∈E:=by
 intro k
 induction k with
 | zero=>exact fun p h=>⟨[p],rfl,by simp,fun x hx=>⟨0,Nat.le_refl _,by rw[List.mem_singleton.1 hx];exact h⟩,fun x hx=>.inl (List.mem_singleton.1 hx)⟩
 | succ k ih =>
   intro p h;obtain⟨q,h1,e⟩:=FB h;obtain⟨l,h2,h3,h4,h5⟩:=ih q h1;refine⟨p::l,by simp[h2],List.nodup_cons.2 ⟨fun hm=>?_,h3⟩,fun x hx=>?_,fun x hx=>?_⟩
   · obtain⟨j,hj,e2⟩:=h4 p hm;omega
   · rcases List.mem_cons.1 hx with rfl | hx
     · exact⟨k+1,Nat.le_refl _,h⟩
     · obtain⟨j,hj,e2⟩:=h4 x hx;exact⟨j,by omega,e2⟩
   · rcases List.mem_cons.1 hx with rfl | hx
     · exact .inl rfl
     · rcases h5 x hx with rfl | h6
       · exact .inr ⟨p,e⟩
       · exact .inr h6
theorem VA (hE:InN n E) (hp:p<n):rk E F p<n:=by
 by_cases h:0<=rk E F p
 · obtain ⟨k,hk⟩:∃k:Nat,rk E F p=k:=⟨(rk E F p).toNat,by omega⟩;obtain⟨l,h1,h2,_,h4⟩:=PX k p hk
   have:=Dj n l h2 fun x hx=>by
    rcases h4 x hx with rfl | ⟨y,e⟩
    · exact hp
    · exact(hE _ e).1
   omega
 · omega
end
end Ci
end
section
namespace Ci
open Classical
def Mut (E:List (Nat×Nat)) (p q:Nat):Prop:=Reach E p q/\Reach E q p
section
variable {E:List (Nat×Nat)} {n p q r:Nat} {left:List Nat}
theorem Mut.refl (p:Nat):Mut E p p:=⟨.refl p,.refl p⟩
theorem Mut.symm (h:Mut E p q):Mut E q p:=⟨h.2,h.1⟩
theorem Mut.trans (h:Mut E p q) (h2:Mut E q r):Mut E p r:=⟨h.1.trans h2.1,h2.2.trans h.2⟩
theorem L9 (E:List (Nat×Nat)) (p:Nat):∃q,Mut E p q/\∀r,Mut E p r->q<=r:=by
 obtain⟨q,_,h1,h2⟩:=Ks (P:=Mut E p) p (.refl p);exact⟨q,h1,fun r hr=>Nat.le_of_not_lt fun c=>h2 r c hr⟩
noncomputable def fst (E:List (Nat×Nat)) (p:Nat):Nat:=Classical.choose (L9 E p)
theorem Em:Mut E p (fst E p):=(Classical.choose_spec (L9 E p)).1
theorem J2 (h:Mut E p q):fst E p<=q:=(Classical.choose_spec (L9 E p)).2 q h
theorem Fu (h:Mut E p q):fst E p=fst E q:=Nat.le_antisymm (J2 (h.trans Em)) (J2 (h.symm.trans Em))
theorem Hb:fst E p=fst E q↔Mut E p q:=⟨fun h=>(h▸Em (p:=p)).trans Em.symm,Fu⟩
theorem FC:fst E (fst E p)=fst E p:=(Fu Em).symm
theorem Gj (h:p<n):fst E p<n:=Nat.lt_of_le_of_lt (J2 (.refl p)) h
noncomputable def CW (n:Nat) (E:List (Nat×Nat)) (p:Nat):List Nat:=(List.range n).filter fun q=>decide (Mut E p q)
theorem CR:q∈CW n E p↔q<n/\Mut E p q:=by simp[CW]
theorem LA:(CW n E p).Nodup:=List.nodup_range.filter _
noncomputable def leasts (n:Nat) (E:List (Nat×Nat)):List Nat:=(List.range n).filter fun p=>decide (fst E p=p)
theorem By:p∈leasts n E↔p<n/\fst E p=p:=by simp[leasts]
def Fv (E:List (Nat×Nat)) (left:List Nat) (p:Nat):Prop:=∀h q,Mut E p q->(h,q)∈E->fst E h∈left->fst E h=p
noncomputable def Fg (E:List (Nat×Nat)) (left:List Nat):Option Nat:=left.find? fun p=>decide (Fv E left p)
noncomputable def ord (E:List (Nat×Nat)):Nat->List Nat->List Nat
 | 0,_=>[]
 | k+1,left=>match Fg E left with
   | none=>[]
   | some p=>p::ord E k (left.erase p)
structure Left (n:Nat) (E:List (Nat×Nat)) (left:List Nat):Prop where
 own:∀x,x∈left->x<n/\fst E x=x
 up:∀x y,x∈left->Reach E x y->fst E y∈left
 sorted:left.Pairwise (·<·)
theorem Left.start (hE:InN n E):Left n E (leasts n E) :=
 ⟨fun _ h=>By.1 h,fun _ _ h hr=>By.2 ⟨Gj (hr.lt hE (By.1 h).1),FC⟩,List.pairwise_lt_range.filter _⟩
theorem Left.nodup (h:Left n E left):left.Nodup:=h.sorted.imp fun a=>Nat.ne_of_lt a
theorem Uz (h:Reach E p q):¬Mut E p q->∃a b,Reach E p a/\(a,b)∈E/\Mut E q b/\¬Mut E q a:=by
 obtain⟨k,w⟩:=h;intro hn
 have key:∀x,(∃j,Way E x q j)->Reach E p x->¬Mut E q x->∃a b,Reach E p a/\(a,b)∈E/\Mut E q b/\¬Mut E q a:=by
  rintro x ⟨j,hw⟩
  induction j generalizing x with
  | zero=>exact fun _ h2=>absurd (by rw[hw.zero];exact .refl q) h2
  | succ j ih =>
    intro hx h2;obtain⟨y,e,d⟩:=hw.first
    by_cases hy:Mut E q y
    · exact⟨x,y,hx,e,hy,h2⟩
    · exact ih y d (hx.trans (.one e)) hy
 exact key p ⟨k,w⟩ (.refl p) fun h=>hn h.symm
theorem Left.erase (h:Left n E left) (hp:p∈left) (hf:Fv E left p):Left n E (left.erase p):=by
 have hd:=h.nodup;refine⟨fun x hx=>h.own x (List.mem_of_mem_erase hx),fun x y hx hr=>?_,h.sorted.sublist List.erase_sublist⟩;obtain⟨ad,d⟩:=hd.mem_erase_iff.1 hx;refine hd.mem_erase_iff.2 ⟨fun e=>?_,h.up x y d hr⟩;have ae:Mut E p y:=Hb.1 (by rw[(h.own p hp).2,e]);have aa:Reach E x p:=hr.trans ae.2;obtain⟨a,b,h1,h2,h3,h4⟩:=Uz aa fun hm=>ad (by rw[<-(h.own x d).2,Fu hm,(h.own p hp).2]);have h5:=hf a b h3 h2 (h.up x a d h1);exact h4 (Hb.1 (by rw[(h.own p hp).2,h5]))
theorem EU {f g:Nat->Bool}:∀{l:List Nat},(∀x,x∈l->f x=true->g x=true)->(∃x,x∈l/\f x=false/\g x=true)->(l.filter f).length<(l.filter g).length:=by
 intro l
 induction l with
 | nil=>rintro _ ⟨x,h,_⟩;cases h
 | cons a l ih =>
   intro hs hx
   have aa:(l.filter f).length<=(l.filter g).length:=by
    have:∀m:List Nat,(∀x,x∈m->f x=true->g x=true)->(m.filter f).length<=(m.filter g).length:=by
     intro m
     induction m with
     | nil=>intro _;exact Nat.le_refl _
     | cons b m ihm =>
       intro hm;have h1:=ihm fun x h=>hm x (List.mem_cons_of_mem _ h);have h2:=hm b (List.mem_cons_self ..)
       cases hf:f b<;>cases hg:g b<;>simp[hf,hg]<;>simp_all<;>omega
    exact this l fun x h=>hs x (List.mem_cons_of_mem _ h)
   by_cases ha:f a=false/\g a=true
   · simp[ha.1,ha.2];omega
   · have d:∃x,x∈l/\f x=false/\g x=true:=by
      obtain⟨x,h1,h2,h3⟩:=hx
      rcases List.mem_cons.1 h1 with rfl | h1
      · exact absurd ⟨h2,h3⟩ ha
      · exact⟨x,h1,h2,h3⟩
     have h1:=ih (fun x h=>hs x (List.mem_cons_of_mem _ h)) d;have h2:=hs a (List.mem_cons_self ..)
     cases hf:f a<;>cases hg:g a<;>simp[hf,hg]<;>simp_all
theorem PY (f:Nat->Nat):∀l:List Nat,l≠[]->∃x,x∈l/\∀y,y∈l->f x<=f y:=by
 intro l
 induction l with
 | nil=>intro h;exact absurd rfl h
 | cons a l ih =>
   intro _
   by_cases h:l=[]
   · exact⟨a,List.mem_cons_self ..,fun y hy=>by rw[h]at hy;rw[List.mem_singleton.1 hy];exact Nat.le_refl _⟩
   · obtain ⟨x,h1,h2⟩:=ih h
     by_cases hc:f a<=f x
     · exact ⟨a,List.mem_cons_self ..,fun y hy=>by
        rcases List.mem_cons.1 hy with rfl | hy
        · exact Nat.le_refl _
        · exact Nat.le_trans hc (h2 y hy)⟩
     · exact ⟨x,List.mem_cons_of_mem _ h1,fun y hy=>by
        rcases List.mem_cons.1 hy with rfl | hy
        · omega
        · exact h2 y hy⟩
theorem Left.free (h:Left n E left) (d:left≠[]):∃p,p∈left/\Fv E left p:=by
 obtain⟨p,hp,hm⟩:=PY (fun p=>((List.range n).filter fun q=>decide (Reach E q p)).length) left d;refine⟨p,hp,fun a b h1 h2 h3=>Classical.byContradiction fun hc=>?_⟩;have h4:=hm _ h3;have h5:Reach E (fst E a) p:=(Em.2.trans (.one h2)).trans h1.2
 have h6:((List.range n).filter fun q=>decide (Reach E q (fst E a))).length<((List.range n).filter fun q=>decide (Reach E q p)).length :=
  EU (fun x _ hx=>decide_eq_true ((of_decide_eq_true hx).trans h5)) ⟨p,List.mem_range.2 (h.own p hp).1,decide_eq_false fun hr=>hc (by
   have:=Fu (E:=E) (p:=fst E a) (q:=p) ⟨h5,hr⟩
   rwa [FC,(h.own p hp).2]at this),decide_eq_true (.refl p)⟩
 omega
theorem Hc (h:Left n E left) (a:left≠[]):∃p,Fg E left=some p:=by
 obtain⟨p,h1,h2⟩:=h.free a
 cases hp:Fg E left with
 | some q=>exact⟨q,rfl⟩
 | none =>
   unfold Fg at hp;rw[List.find?_eq_none]at hp;exact absurd (decide_eq_true h2) (hp p h1)
theorem C6 (h:Left n E left) (hp:Fg E left=some p):p∈left/\Fv E left p/\∀q,q∈left->Fv E left q->p<=q:=by
 unfold Fg at hp;obtain⟨h1,us,bs,h2,h3⟩:=List.find?_eq_some_iff_append.1 hp;refine⟨by rw[h2];simp,of_decide_eq_true h1,fun q hq hf=>?_⟩;have hs:=h.sorted;rw[h2]at hq hs
 rcases List.mem_append.1 hq with hq | hq
 · have:=h3 q hq;rw[decide_eq_true hf]at this
   cases this
 · rcases List.mem_cons.1 hq with rfl | hq
   · exact Nat.le_refl _
   · exact Nat.le_of_lt ((List.pairwise_cons.1 (List.pairwise_append.1 hs).2.1).1 q hq)
theorem Td (h:Left n E left) (h1:p∈left) (h2:Fv E left p) (h3:∀q,q∈left->Fv E left q->p<=q):Fg E left=some p:=by
 cases hp:Fg E left with
 | none =>
   unfold Fg at hp;rw[List.find?_eq_none]at hp;exact absurd (decide_eq_true h2) (hp p h1)
 | some q =>
   obtain⟨a,b,c⟩:=C6 h hp;have:=h3 q a b;have:=c p h1 h2;rw[show q=p by omega]
theorem J3:∀(k:Nat) (left:List Nat),Left n E left->left.length<=k->∀p,p∈ord E k left↔p∈left:=by
 intro k
 induction k with
 | zero =>
   intro left _ hk p;rw[List.length_eq_zero_iff.1 (Nat.le_zero.1 hk)];exact Iff.rfl
 | succ k ih =>
   intro left h hk p
   by_cases hne:left=[]
   · subst hne;simp[ord,Fg]
   · obtain ⟨q,hq⟩:=Hc h hne;obtain⟨h1,h2,_⟩:=C6 h hq;have h3:=ih _ (h.erase h1 h2) (by rw[List.length_erase_of_mem h1];omega) p;unfold ord;rw[hq];dsimp only;rw[List.mem_cons,h3,h.nodup.mem_erase_iff];constructor
     · rintro(rfl | h4)
       · exact h1
       · exact h4.2
     · intro h4
       by_cases e:p=q
       · exact .inl e
       · exact .inr ⟨e,h4⟩
theorem IG:∀(k:Nat) (left:List Nat),Left n E left->left.length<=k->(ord E k left).Nodup/\(ord E k left).length=left.length:=by
 intro k
 induction k with
 | zero =>
   intro left _ hk;rw[List.length_eq_zero_iff.1 (Nat.le_zero.1 hk)];exact⟨List.nodup_nil,rfl⟩
 | succ k ih =>
   intro left h hk
   by_cases hne:left=[]
   · subst hne;simp[ord,Fg]
   · obtain ⟨q,hq⟩:=Hc h hne;obtain⟨h1,h2,_⟩:=C6 h hq;have a:(left.erase q).length<=k:=by rw[List.length_erase_of_mem h1];omega
     have h3:=ih _ (h.erase h1 h2) a;have h4:=J3 k _ (h.erase h1 h2) a q;have h5:=List.length_pos_of_mem h1;unfold ord;rw[hq];dsimp only;refine⟨List.nodup_cons.2 ⟨fun hm=>?_,h3.1⟩,?_⟩
     · exact(h.nodup.mem_erase_iff.1 (h4.1 hm)).1 rfl
     · rw[List.length_cons,h3.2,List.length_erase_of_mem h1];omega
theorem Og:∀(k:Nat) (left:List Nat),Left n E left->left.length<=k->∀(i j:Nat) (hi:i<(ord E k left).length) (hj:j<(ord E k left).length) (a b:Nat),
 (a,b)∈E->fst E a=(ord E k left)[i]->fst E b=(ord E k left)[j]->i<=j:=by
 intro k
 induction k with
 | zero=>intro left _ _ i j hi;simp[ord]at hi
 | succ k ih =>
   intro left h hk i j hi hj a b e ha hb
   by_cases hne:left=[]
   · subst hne;simp[ord,Fg]at hi
   · obtain ⟨q,hq⟩:=Hc h hne;obtain⟨h1,h2,_⟩:=C6 h hq;have d:(left.erase q).length<=k:=by rw[List.length_erase_of_mem h1];omega
     have hu:ord E (k+1) left=q::ord E k (left.erase q):=by conv=>lhs;unfold ord;rw[hq]
     simp only[hu]at hi hj ha hb
     cases i with
     | zero=>exact Nat.zero_le _
     | succ i =>
       cases j with
       | zero =>
         simp only[List.getElem_cons_succ,List.getElem_cons_zero]at ha hb;have hm:=(J3 k _ (h.erase h1 h2) d _).1 (List.getElem_mem (by simpa using hi:i<(ord E k (left.erase q)).length));rw[<-ha]at hm;obtain⟨h3,h4⟩:=h.nodup.mem_erase_iff.1 hm;exact absurd (h2 a b (Hb.1 (by rw[hb,(h.own q h1).2])) e h4) h3
       | succ j =>
         simp only[List.getElem_cons_succ]at ha hb;have:=ih _ (h.erase h1 h2) d i j (by simpa using hi) (by simpa using hj) a b e ha hb;omega
end
noncomputable def ords (n:Nat) (E:List (Nat×Nat)):List Nat:=ord E n (leasts n E)
noncomputable def As (n:Nat) (E:List (Nat×Nat)):List (List Nat):=(ords n E).map (CW n E)
end Ci
end
section
namespace Ci
def Fw (o:Nat->Int) (q:Nat) (v:Int):Nat->Int:=fun x=>if x=q then v else o x
section
variable {E:List (Nat×Nat)} {F:List Nat} {n p q r i:Nat} {out:Nat->Int}
theorem Be (o:Nat->Int) (q:Nat) (v:Int):Fw o q v q=v:=if_pos rfl
theorem AJ {o:Nat->Int} {q x:Nat} {v:Int} (h:x≠q):Fw o q v x=o x:=if_neg h
structure Lv (n:Nat) (E:List (Nat×Nat)) (F:List Nat) (r i:Nat) (out:Nat->Int):Prop where
 low:∀x,x<n->rk E F x<=r->out x=rk E F x
 mid:∀x,x<n->rk E F x=(r:Int)+1->out x=(r:Int)+1∨(out x=-1/\∀h,(h,x)∈E.take i->rk E F h≠r)
 high:∀x,x<n->(r:Int)+1<rk E F x->out x=-1
theorem Lv.right (h:Lv n E F r i out) {x:Nat} (hx:x<n) (h0:0<=out x):out x=rk E F x:=by
 by_cases h1:rk E F x<=r
 · exact h.low x hx h1
 · by_cases h2:rk E F x=(r:Int)+1
   · rcases h.mid x hx h2 with h3 | h3
     · rw[h3,h2]
     · omega
   · have:=h.high x hx (by omega);omega
theorem IH {α:Type} {l:List α} {i:Nat} (h:i<l.length):l.take (i+1)=l.take i++[l[i]]:=by
 rw[List.take_succ_eq_append_getElem h]
theorem Lv.set (h:Lv n E F r i out) (hi:i<E.length) (hE:InN n E) (h1:out E[i].1=r) (h2:out E[i].2<0):Lv n E F r (i+1) (Fw out E[i].2 ((r:Int)+1)):=by
 obtain⟨a1,a2⟩:=hE _ (List.getElem_mem hi);have b1:rk E F E[i].1=r:=by rw[<-h.right a1 (by omega),h1]
 have b2:=J1 (E:=E) (F:=F) (q:=E[i].1) (p:=E[i].2) (by omega) (List.getElem_mem hi)
 have b3:rk E F E[i].2=(r:Int)+1:=by
  by_cases c:rk E F E[i].2<=r
  · have:=h.low _ a2 c;omega
  · omega
 refine⟨fun x hx hl=>?_,fun x hx hl=>?_,fun x hx hl=>?_⟩
 · rw[AJ fun e=>by rw[e]at hl;omega];exact h.low x hx hl
 · by_cases e:x=E[i].2
   · exact .inl (by rw[e,Be])
   · rw [AJ e]
     rcases h.mid x hx hl with h3 | ⟨h3,h4⟩
     · exact .inl h3
     · refine .inr ⟨h3,fun y hy=>?_⟩;rw[IH hi]at hy
       rcases List.mem_append.1 hy with hy | hy
       · exact h4 y hy
       · exact absurd (by rw[<-List.mem_singleton.1 hy]) e
 · rw[AJ fun e=>by rw[e]at hl;omega];exact h.high x hx hl
theorem Lv.skip (h:Lv n E F r i out) (hi:i<E.length) (hE:InN n E) (h1:¬(out E[i].1=r/\out E[i].2<0)):Lv n E F r (i+1) out:=by
 obtain⟨a1,a2⟩:=hE _ (List.getElem_mem hi);refine⟨h.low,fun x hx hl=>?_,h.high⟩
 rcases h.mid x hx hl with h3 | ⟨h3,h4⟩
 · exact .inl h3
 · refine .inr ⟨h3,fun y hy hr=>?_⟩;rw[IH hi]at hy
   rcases List.mem_append.1 hy with hy | hy
   · exact h4 y hy hr
   · have e:=List.mem_singleton.1 hy;have e1:E[i].1=y:=by rw[<-e]
     have e2:E[i].2=x:=by rw[<-e]
     refine h1 ⟨?_,by rw[e2,h3];omega⟩;rw[e1,h.low y (by rw[<-e1];exact a1) (by omega),hr]
theorem Lv.next (h:Lv n E F r E.length out):Lv n E F (r+1) 0 out:=by
 have hm:∀x,x<n->rk E F x=(r:Int)+1->out x=(r:Int)+1:=fun x hx hl=>by
  rcases h.mid x hx hl with h3 | ⟨_,h4⟩
  · exact h3
  · obtain⟨q,h5,h6⟩:=FB (k:=r) (p:=x) (E:=E) (F:=F) (by omega);exact absurd h5 (h4 q (by rw[List.take_length];exact h6))
 refine⟨fun x hx hl=>?_,fun x hx hl=>.inr ⟨h.high x hx (by omega),fun y hy=>by simp at hy⟩,fun x hx hl=>h.high x hx (by omega)⟩
 by_cases c:rk E F x<=r
 · exact h.low x hx c
 · rw[hm x hx (by omega)];omega
theorem Lv.whole (h:Lv n E F r i out) (hr:n<=r) (hE:InN n E) {x:Nat} (hx:x<n):out x=rk E F x:=by
 have:=VA (F:=F) hE hx;exact h.low x hx (by omega)
theorem Lv.at (h:Lv n E F r i out) (hE:InN n E) {x:Nat} (hx:x<n) (hr:n<=r∨0<=out x):out x=rk E F x:=by
 rcases hr with hr | hr
 · exact h.whole hr hE hx
 · exact h.right hx hr
structure Bf (n:Nat) (E:List (Nat×Nat)) (F:List Nat) (ex:Nat->Prop) (out:Nat->Int) (queue:List Nat):Prop where
 way:∀x,x<n->0<=out x->Ft E F x (out x).toNat
 neg:∀x,x<n->-1<=out x
 src:∀f,f∈F->out f=0
 edge:∀x y,x<n->(x,y)∈E->0<=out x->x∉queue->¬ex x->0<=out y/\out y<=out x+1
 pos:∀x,x∈queue->x<n/\0<=out x
 sorted:queue.Pairwise fun a b=>out a<=out b/\out b<=out a+1
 done:∀x,x<n->0<=out x->x∉queue->∀y,y∈queue->out x<=out y
 nodup:queue.Nodup
theorem Bf.start (hF:F.Nodup) (hn:∀f,f∈F->f<n) (h0:∀x,x<n->out x=if x∈F then 0 else -1):Bf n E F (fun _=>False) out F:=by
 have hs:∀f,f∈F->out f=0:=fun f hf=>by rw[h0 f (hn f hf),if_pos hf]
 have hr:∀x,x<n->0<=out x->x∈F:=fun x hx h=>by
  rw[h0 x hx]at h
  split at h
  · assumption
  · omega
 refine⟨fun x hx h=>?_,fun x hx=>?_,hs,fun x y hx _ h hq=>absurd (hr x hx h) hq,fun x hx=>⟨hn x hx,by rw[hs x hx];omega⟩,?_,fun x hx h hq=>absurd (hr x hx h) hq,hF⟩
 · rw[hs x (hr x hx h)];exact Dh.2 (hr x hx h)
 · rw[h0 x hx];split<;>omega
 · exact List.Pairwise.imp_of_mem (R:=fun _ _=>True) (fun ha hb _=>by rw[hs _ ha,hs _ hb];omega) (List.pairwise_of_forall fun _ _=>trivial)
theorem Bf.end (h:Bf n E F (fun _=>False) out []) (hn:∀f,f∈F->f<n) (hE:InN n E) {x:Nat} (hx:x<n):out x=rk E F x:=by
 have key:∀k y,Ft E F y k->y<n/\0<=out y/\out y<=k:=by
  intro k
  induction k with
  | zero =>
    intro y hy;have hm:=Dh.1 hy;have:=h.src y hm;exact⟨hn y hm,by omega,by omega⟩
  | succ k ih =>
    intro y hy;obtain⟨z,hz,e⟩:=Di.1 hy;obtain⟨a,b,c⟩:=ih z hz;have:=h.edge z y a e b (by simp) (fun h=>h);exact⟨(hE _ e).2,by omega,by omega⟩
 have h1:=h.neg x hx;refine(Uy ?_).symm
 by_cases h0:0<=out x
 · refine .inr ⟨(out x).toNat,by omega,h.way x hx h0,fun j hj hw=>?_⟩;have:=key j x hw;omega
 · refine .inl ⟨by omega,fun k hk=>?_⟩;have:=key k x hk;omega
theorem Bf.pop {queue:List Nat} (h:Bf n E F (fun _=>False) out (p::queue)):Bf n E F (·=p) out queue/\p<n/\0<=out p/\(∀y,y∈queue->out p<=out y/\out y<=out p+1)/\∀x,x<n->out x<=out p+1:=by
 have hp:=h.pos p (List.mem_cons_self ..);have hs:=List.pairwise_cons.1 h.sorted;have hd:=List.nodup_cons.1 h.nodup;refine⟨⟨h.way,h.neg,h.src,fun x y hx e h0 hq a=>h.edge x y hx e h0 (fun hm=>(List.mem_cons.1 hm).elim a hq) (fun h=>h),fun x hx=>h.pos x (List.mem_cons_of_mem _ hx),hs.2,fun x hx h0 hq y hy=>?_,hd.2⟩,hp.1,hp.2,fun y hy=>hs.1 y hy,fun x hx=>?_⟩
 · by_cases e:x=p
   · rw[e];exact(hs.1 y hy).1
   · exact h.done x hx h0 (fun hm=>(List.mem_cons.1 hm).elim e hq) y (List.mem_cons_of_mem _ hy)
 · by_cases h0:0<=out x
   · by_cases hm:x∈p::queue
     · rcases List.mem_cons.1 hm with rfl | hm
       · omega
       · exact(hs.1 x hm).2
     · have:=h.done x hx h0 hm p (List.mem_cons_self ..);omega
   · omega
structure Bq (n:Nat) (E:List (Nat×Nat)) (F:List Nat) (p:Nat) (v:Int) (ns:List Nat) (out:Nat->Int) (queue:List Nat):Prop where
 inv:Bf n E F (·=p) out queue
 cur:out p=v
 here:p<n
 v0:0<=v
 seen:∀y,y∈ns->0<=out y/\out y<=v+1
 rest:∀y,y∈queue->v<=out y/\out y<=v+1
 all:∀x,x<n->out x<=v+1
 off:p∉queue
theorem Bq.start {queue:List Nat} (h:Bf n E F (fun _=>False) out (p::queue)):Bq n E F p (out p) [] out queue:=by
 obtain⟨a,b,c,d,e⟩:=h.pop;exact⟨a,rfl,b,c,fun y hy=>by simp at hy,d,e,(List.nodup_cons.1 h.nodup).1⟩
theorem Bq.skip {v:Int} {ns queue:List Nat} (h:Bq n E F p v ns out queue) (hq:q<n) (h0:0<=out q):Bq n E F p v (ns++[q]) out queue :=
 ⟨h.inv,h.cur,h.here,h.v0,fun y hy=>by
   rcases List.mem_append.1 hy with hy | hy
   · exact h.seen y hy
   · rw[List.mem_singleton.1 hy];exact⟨h0,h.all q hq⟩,h.rest,h.all,h.off⟩
theorem Bq.set {v:Int} {ns queue:List Nat} (h:Bq n E F p v ns out queue) (hq:q<n) (e:(p,q)∈E) (h0:out q<0):Bq n E F p v (ns++[q]) (Fw out q (v+1)) (queue++[q]):=by
 have ad:p≠q:=fun c=>by have:=h.cur;have:=h.v0;rw[c]at *;omega
 have ag:q∉queue:=fun c=>by have:=(h.inv.pos q c).2;omega
 have ho:∀x,0<=out x->Fw out q (v+1) x=out x:=fun x hx=>AJ fun c=>by rw[c]at hx;omega
 have hv:=h.v0;refine⟨⟨fun x hx d=>?_,fun x hx=>?_,fun f hf=>?_,fun x y hx e2 d aa af=>?_,fun x hx=>?_,?_,fun x hx d aa y hy=>?_,?_⟩,?_,h.here,h.v0,fun y hy=>?_,fun y hy=>?_,fun x hx=>?_,fun c=>?_⟩
 · by_cases c:x=q
   · rw[c,Be];have h1:=h.inv.way p h.here (by rw[h.cur];exact hv);rw[h.cur]at h1;have h2:=Di.2 ⟨p,h1,e⟩
     rwa [show v.toNat+1=(v+1).toNat by omega]at h2
   · rw[AJ c]at d ⊢;exact h.inv.way x hx d
 · by_cases c:x=q
   · rw[c,Be];omega
   · rw[AJ c];exact h.inv.neg x hx
 · have:=h.inv.src f hf;rw[ho f (by omega)];exact this
 · have c:x≠q:=fun c=>aa (by rw[c];simp);rw[AJ c]at d ⊢;have h1:=h.inv.edge x y hx e2 d (fun c2=>aa (List.mem_append_left _ c2)) af;rw[ho y h1.1];exact h1
 · rcases List.mem_append.1 hx with hx | hx
   · have:=h.inv.pos x hx;rw[ho x this.2];exact this
   · rw[List.mem_singleton.1 hx,Be];exact⟨hq,by omega⟩
 · refine List.pairwise_append.2 ⟨?_,List.pairwise_singleton ..,fun a ha b hb=>?_⟩
   · refine List.Pairwise.imp_of_mem (fun ha hb ae=>?_) h.inv.sorted;rw[ho _ (h.inv.pos _ ha).2,ho _ (h.inv.pos _ hb).2];exact ae
   · rw[List.mem_singleton.1 hb,Be,ho a (h.inv.pos a ha).2];have:=h.rest a ha;omega
 · have c:x≠q:=fun c=>aa (by rw[c];simp);rw[AJ c]at d ⊢
   rcases List.mem_append.1 hy with hy | hy
   · rw[ho y (h.inv.pos y hy).2];exact h.inv.done x hx d (fun c2=>aa (List.mem_append_left _ c2)) y hy
   · rw[List.mem_singleton.1 hy,Be];exact h.all x hx
 · exact List.nodup_append.2 ⟨h.inv.nodup,by simp,fun a ha b hb c=>ag (by rw[<-List.mem_singleton.1 hb,<-c];exact ha)⟩
 · rw[AJ ad];exact h.cur
 · rcases List.mem_append.1 hy with hy | hy
   · have:=h.seen y hy;rw[ho y this.1];exact this
   · rw[List.mem_singleton.1 hy,Be];omega
 · rcases List.mem_append.1 hy with hy | hy
   · have:=h.rest y hy;rw[ho y (h.inv.pos y hy).2];exact this
   · rw[List.mem_singleton.1 hy,Be];omega
 · by_cases c:x=q
   · rw[c,Be];omega
   · rw[AJ c];exact h.all x hx
 · rcases List.mem_append.1 c with c | c
   · exact h.off c
   · exact ad (List.mem_singleton.1 c)
theorem Bq.end {v:Int} {ns queue:List Nat} (h:Bq n E F p v ns out queue) (a:∀q,(p,q)∈E->q∈ns):Bf n E F (fun _=>False) out queue :=
 ⟨h.inv.way,h.inv.neg,h.inv.src,fun x y hx e d aa _=>by
   by_cases c:x=p
   · rw[c]at e ⊢;rw[h.cur];exact h.seen y (a y e)
   · exact h.inv.edge x y hx e d aa c,h.inv.pos,h.inv.sorted,h.inv.done,h.inv.nodup⟩
def Fx (n:Nat) (out:Nat->Int):Nat:=((List.range n).filter fun x=>decide (out x<0)).length
theorem Kt (hq:q<n) (h0:out q<0) {v:Int} (hv:0<=v):Fx n (Fw out q v)+1<=Fx n out:=by
 refine EU (fun x _ hx=>?_) ⟨q,List.mem_range.2 hq,?_,decide_eq_true h0⟩
 · have h1:=of_decide_eq_true hx;refine decide_eq_true ?_
   by_cases c:x=q
   · rw[c];exact h0
   · rwa [AJ c]at h1
 · rw[Be];exact decide_eq_false (by omega)
end
end Ci
end
section
namespace Ci
section
variable {E:List (Nat×Nat)} {n p q r:Nat} {V V1 V2:Nat->Prop}
def Vis (E:List (Nat×Nat)) (p:Nat) (V V':Nat->Prop):Prop :=
 (∀x,V x->V' x)/\V' p/\(∀x,V' x->¬V x->Reach E p x)/\∀x y,V' x->¬V x->(x,y)∈E->V' y
def VisL (E:List (Nat×Nat)) (p:Nat) (ns:List Nat) (V V':Nat->Prop):Prop :=
 (∀x,V x->V' x)/\V' p/\(∀x,V' x->¬V x->Reach E p x)/\(∀x y,V' x->¬V x->x≠p->(x,y)∈E->V' y)/\∀y,y∈ns->V' y
theorem Vis.had (h:V p):Vis E p V V:=⟨fun _ h=>h,h,fun _ a b=>absurd a b,fun _ _ a b=>absurd a b⟩
theorem VisL.start (E : List (Nat × Nat)) (p : Nat) (V : Nat -> Prop) : VisL E p [] V fun x=>V x∨x=p :=
 ⟨fun _ h => .inl h, .inr rfl, fun x a b => by rcases a with a | rfl
                                               · exact absurd a b
                                               · exact .refl _, fun x y a b c => by rcases a with a | a
                                                                                    · exact absurd a b
                                                                                    · exact absurd a c,fun y hy=>by simp at hy⟩
theorem VisL.step {ns:List Nat} (h:VisL E p ns V V1) (e:(p,q)∈E) (h2:Vis E q V1 V2):VisL E p (ns++[q]) V V2:=by
 obtain⟨a1,a2,a3,a4,a5⟩:=h;obtain⟨b1,b2,b3,b4⟩:=h2;refine⟨fun x hx=>b1 x (a1 x hx),b1 p a2,fun x hx hv=>?_,fun x y hx hv hp he=>?_,fun y hy=>?_⟩
 · by_cases c:V1 x
   · exact a3 x c hv
   · exact(Reach.one e).trans (b3 x hx c)
 · by_cases c:V1 x
   · exact b1 y (a4 x y c hv hp he)
   · exact b4 x y hx c he
 · rcases List.mem_append.1 hy with hy | hy
   · exact b1 y (a5 y hy)
   · rw[List.mem_singleton.1 hy];exact b2
theorem VisL.end {ns:List Nat} (h:VisL E p ns V V1) (a:∀q,(p,q)∈E->q∈ns):Vis E p V V1:=by
 obtain⟨a1,a2,a3,a4,a5⟩:=h;refine⟨a1,a2,a3,fun x y hx hv he=>?_⟩
 by_cases c:x=p
 · rw[c]at he;exact a5 y (a y he)
 · exact a4 x y hx hv c he
theorem Vis.reach (h:Vis E p (fun _=>False) V1) (x:Nat):V1 x↔Reach E p x:=by
 obtain⟨_,a2,a3,a4⟩:=h;exact⟨fun hx=>a3 x hx fun h=>h,fun hr=>hr.closed a2 fun a b ha he=>a4 a b ha (fun h=>h) he⟩
open Classical
theorem FD (k:Nat):ord E k []=[]:=by cases k<;>simp[ord,Fg]
theorem Ku:∀(k j:Nat) (left:List Nat),Left n E left->left.length<=k->left.length<=j->ord E k left=ord E j left:=by
 intro k
 induction k with
 | zero =>
   intro j left _ hk _;rw[List.length_eq_zero_iff.1 (Nat.le_zero.1 hk),FD,FD]
 | succ k ih =>
   intro j left h hk hj
   by_cases hne:left=[]
   · rw[hne,FD,FD]
   · obtain⟨p,hp⟩:=Hc h hne;obtain⟨h1,h2,_⟩:=C6 h hp;have h3:=List.length_pos_of_mem h1;obtain⟨j,rfl⟩:∃i,j=i+1:=⟨j-1,by omega⟩;have h4:=List.length_erase_of_mem h1
     conv=>lhs;unfold ord;rw[hp]
     conv=>rhs;unfold ord;rw[hp]
     dsimp only;rw[ih j _ (h.erase h1 h2) (by omega) (by omega)]
structure Stage (n:Nat) (E:List (Nat×Nat)) (pre left:List Nat):Prop where
 ok:Left n E left
 all:∀x,x<n->(fst E x∈pre↔fst E x∉left)
 had:∀x,x∈pre->x<n/\fst E x=x/\x∉left
 eq:ords n E=pre++ord E left.length left
theorem C7:(leasts n E).length<=n:=by
 have:=List.length_filter_le (fun p=>decide (fst E p=p)) (List.range n);rw[List.length_range]at this;exact this
theorem Stage.start (hE:InN n E):Stage n E [] (leasts n E) :=
 ⟨Left.start hE,fun x hx=>⟨fun h=>by simp at h,fun h=>absurd (By.2 ⟨Gj hx,FC⟩) h⟩,fun x hx=>by simp at hx,by
   rw[List.nil_append];exact Ku _ _ _ (Left.start hE) C7 (Nat.le_refl _)⟩
theorem Stage.step {pre left:List Nat} (h:Stage n E pre left) (hp:Fg E left=some p):Stage n E (pre++[p]) (left.erase p):=by
 obtain⟨h1,h2,_⟩:=C6 h.ok hp;have hd:=h.ok.nodup;refine⟨h.ok.erase h1 h2,fun x hx=>?_,fun x hx=>?_,?_⟩
 · rw [hd.mem_erase_iff,List.mem_append,h.all x hx,List.mem_singleton];constructor
   · rintro(c | c)
     · exact fun c2=>c c2.2
     · exact fun c2=>c2.1 c
   · intro c
     by_cases c2:fst E x=p
     · exact .inr c2
     · exact .inl fun c3=>c ⟨c2,c3⟩
 · rcases List.mem_append.1 hx with hx | hx
   · obtain⟨a,b,c⟩:=h.had x hx;exact⟨a,b,fun d=>c (List.mem_of_mem_erase d)⟩
   · rw[List.mem_singleton.1 hx];exact⟨(h.ok.own p h1).1,(h.ok.own p h1).2,fun d=>(hd.mem_erase_iff.1 d).1 rfl⟩
 · have h3:=List.length_pos_of_mem h1;have h4:=List.length_erase_of_mem h1;rw[h.eq,List.append_assoc]
   congr 1
   obtain⟨k,hk⟩:∃k,left.length=k+1:=⟨left.length-1,by omega⟩;rw[hk]
   conv=>lhs;unfold ord;rw[hp]
   dsimp only;rw[Ku k _ _ (h.ok.erase h1 h2) (by omega) (Nat.le_refl _)];rfl
theorem Stage.end {pre:List Nat} (h:Stage n E pre []):ords n E=pre:=by
 have:=h.eq
 rwa [FD,List.append_nil]at this
theorem Kv {left:List Nat} (hE:InN n E):Fv E left p↔∀q,q∈CW n E p->∀h,(h,q)∈E->fst E h∈left->fst E h=p:=by
 constructor
 · exact fun h q hq x e hl=>h x q (CR.1 hq).2 e hl
 · exact fun h x q hm e hl=>h q (CR.2 ⟨(hE _ e).2,hm⟩) x e hl
end
end Ci
end
section
open Go.RowKit
namespace Nt
theorem G8 (w:World) (k:Nat):Below w.heap.size w (w.drewN k):=⟨rfl,rfl,rfl,Nat.le_refl _,fun _ _=>rfl⟩
theorem Hm (w:World) (os:Array Obj):Below w.heap.size w (Sort.grow w os) :=
 ⟨rfl,rfl,rfl,by simp[Sort.grow],fun k hk=>by simp[Sort.grow,Array.getElem?_append,hk]⟩
structure Env (w:World):Prop where
 tab:Lib.TabIs Tryz.prog w "internal/strconv.uint64pow10" .u64 Lib.pow10Tab
 syn:∃tp p, w.var? Tryz.prog "strconv.ErrSyntax"=some #[.iface tp p]
 rng:∃tp p, w.var? Tryz.prog "strconv.ErrRange"=some #[.iface tp p]
theorem Nx:Tryz.prog.globalNamed "internal/strconv.uint64pow10"=some 2 := by kernel_rfl
theorem PZ:Tryz.prog.globalNamed "strconv.ErrSyntax"=some 0 := by kernel_rfl
theorem Qa:Tryz.prog.globalNamed "strconv.ErrRange"=some 1 := by kernel_rfl
theorem J4 {w:World} {n:String} {g:Nat} {cs:Array Value} (hg:Tryz.prog.globalNamed n=some g) (h:w.var? Tryz.prog n=some cs):g<w.heap.size:=by
 unfold World.var? at h;simp only[hg,Option.bind_some]at h
 by_cases hlt:g<w.heap.size
 · exact hlt
 · rw[Array.getElem?_eq_none (by omega)]at h;simp at h
theorem Env.below {w w':World} (h:Env w) (hb:Below w.heap.size w w'):Env w':=by
 obtain⟨h1,⟨t2,p2,h2⟩,t3,p3,h3⟩:=h;exact⟨var?_below hb Nx (J4 Nx h1) h1,⟨t2,p2,var?_below hb PZ (J4 PZ h2) h2⟩,⟨t3,p3,var?_below hb Qa (J4 Qa h3) h3⟩⟩
theorem Env.pos {w:World} (h:Env w):0<w.heap.size:=by have:=J4 Nx h.tab;omega
theorem Qb (n:Int) (h0:-9223372036854775808<=n) (h1:n<=9223372036854775807) (w:World) (a:Lib.TabIs Tryz.prog w "internal/strconv.uint64pow10" .u64 Lib.pow10Tab) :
 Calls Tryz.prog 143 #[.int .i64 n] w fun e w'=>e=.returned (.string ⟨(Lib.itoa n).toArray⟩)/\Below w.heap.size w w':=by
 refine(Tryz.strconv_Itoa n h0 h1 w a).mono ?_;rintro e w' ⟨rfl,k,os,rfl⟩;exact⟨rfl,(G8 w k).trans (Hm (w.drewN k) os)⟩
theorem J5 (s:ByteArray) (a:s.size<=1000000) (u:Nat) (h:Lib.parseUintB 64 s.data.toList=.ok u) (w:World) :
 Calls Tryz.prog 163 #[.string s,.int .i64 10,.int .i64 64] w fun e w'=>e=.returned (.tuple #[.int .u64 u,.nilIface])/\Below w.heap.size w w':=by
 refine(Tryz.strconv_ParseUint_10_at64_ok s (by omega) u h w).mono ?_;rintro e w' ⟨rfl,rfl | rfl⟩
 · exact⟨rfl,Below.refl _ _⟩
 · exact⟨rfl,Go.Joins.below_bytesWorld _ _ _ _ (Nat.le_refl _)⟩
theorem Kw (s:ByteArray) (w:World) (hs:s.size<=9223372036854775807) :
 Calls Tryz.prog 162 #[.string s,.string ⟨#[48,49,50,51,52,53,54,55,56,57]⟩] w fun e w'=>e=.returned (.string ⟨(Lib.trimS s.data.toList [48,49,50,51,52,53,54,55,56,57]).toArray⟩)/\Below w.heap.size w w' :=
 Any.strings_Trim_laid Tryz.lays160 (by kernel_rfl) s ⟨#[48,49,50,51,52,53,54,55,56,57]⟩ w hs (by decide) (ascii_of_all (by decide))
theorem DL (B b:Nat) (bs:List Value) (s:ByteArray) (w:World) (h:Lib.IsBuilderF 173 5 B b bs w) (a:bs.length+s.size<=140737488355328) (d:B<=w.heap.size) :
 Calls Tryz.prog 171 #[.pointer (some ⟨b,0,none⟩),.string s] w fun e w'=>e=.returned (.tuple #[.int .i64 s.size,.nilIface])/\(Lib.IsBuilderF 173 5 B b (bs++Lib.strCells s) w'/\Below B w w'/\Lib.OthersKept 5 (some b) w w'):=by
 refine(Any.Builder_WriteString_k { Tryz.lays105 with } Tryz.Builder_Extra_105 B b bs s w h a d).mono ?_;rintro e w' ⟨rfl,h1,h2⟩;exact⟨rfl,.inr h1,h2⟩
end Nt
end
section
open Go.RowKit
namespace Nt
def lv:List Nat->Nat
 | []=>0
 | x::xs=>x+1000000000*lv xs
def lim (xs:List Nat) (i:Nat):Nat:=xs.getD i 0
def VB:Value->Nat
 | .slice _ n _=>n
 | _=>0
def Canon (xs:List Nat):Prop:=(∀x∈xs,x<1000000000)/\xs.getLast?≠some 0
theorem Dk (xs ys:List Nat):lv (xs++ys)=lv xs+1000000000^xs.length*lv ys:=by
 induction xs with
 | nil=>simp[lv]
 | cons x xs ih =>
   simp only[List.cons_append,lv,ih,List.length_cons,Nat.pow_succ,Nat.mul_add];rw[Nat.mul_comm (1000000000^xs.length) 1000000000,Nat.mul_assoc];omega
def Sl (w:World) (v:Value) (xs:List Nat):Prop :=
 ∃ a cap,v=.slice a xs.length cap/\(a=none->xs=[]/\cap=0) /\
  ∀ad,a=some ad->ad.spot=none/\ad.block<w.heap.size/\xs.length<=cap/\∀i,i<xs.length->w.cell? ⟨ad.block,ad.off+i,none⟩=some (.int .u64 (lim xs i))
theorem Sl.shape {w:World} {v:Value} {xs:List Nat} (h:Sl w v xs) :
 (xs=[]/\v=.slice none 0 0) ∨
 ∃b off cap,v=.slice (some ⟨b,off,none⟩) xs.length cap/\b<w.heap.size/\xs.length<=cap/\∀i,i<xs.length->w.cell? ⟨b,off+i,none⟩=some (.int .u64 (lim xs i)):=by
 obtain⟨a,cap,rfl,hn,hs⟩:=h
 cases a with
 | none=>exact .inl ⟨(hn rfl).1,by rw[(hn rfl).1,(hn rfl).2];rfl⟩
 | some ad =>
   obtain⟨aa,hb,d,hc⟩:=hs ad rfl;obtain⟨b,off,sp⟩:=ad
   cases aa
   exact .inr ⟨b,off,cap,rfl,hb,d,hc⟩
theorem Sl.addr {w:World} {v:Value} {xs:List Nat} (h:Sl w v xs) :
 ∃a cap,v=.slice a xs.length cap/\(xs≠[]->∃b off,a=some ⟨b,off,none⟩/\b<w.heap.size/\∀i,i<xs.length->w.cell? ⟨b,off+i,none⟩=some (.int .u64 (lim xs i))):=by
 obtain⟨a,cap,rfl,hn,hs⟩:=h;refine⟨a,cap,rfl,fun aa=>?_⟩
 cases a with
 | none=>exact absurd (hn rfl).1 aa
 | some ad =>
   obtain⟨d,hb,ae,hc⟩:=hs ad rfl;obtain⟨b,off,sp⟩:=ad
   cases d
   exact⟨b,off,rfl,hb,hc⟩
theorem Sl.mk {w:World} {b off cap:Nat} {xs:List Nat} (hb:b<w.heap.size) (a:xs.length<=cap)
 (hc:∀i,i<xs.length->w.cell? ⟨b,off+i,none⟩=some (.int .u64 (lim xs i))):Sl w (.slice (some ⟨b,off,none⟩) xs.length cap) xs :=
 ⟨some ⟨b,off,none⟩,cap,rfl,(fun h=>by cases h),(fun ad h=>by cases h;exact⟨rfl,hb,a,hc⟩)⟩
theorem Sl.nil (w:World):Sl w (.slice none 0 0) []:=⟨none,0,rfl,(fun _=>⟨rfl,rfl⟩),(fun ad h=>by cases h)⟩
theorem Sl.below {w w':World} {v:Value} {xs:List Nat} (h:Sl w v xs) (hb:Below w.heap.size w w'):Sl w' v xs:=by
 obtain⟨a,cap,rfl,hn,hs⟩:=h;refine⟨a,cap,rfl,hn,fun ad e=>?_⟩;obtain⟨h1,h2,h3,h4⟩:=hs ad e;exact⟨h1,Nat.lt_of_lt_of_le h2 hb.size,h3,fun i hi=>(hb.cell (p:=⟨ad.block,ad.off+i,none⟩) h2).trans (h4 i hi)⟩
def From (B:Nat):Value->Prop
 | .slice (some ad) _ _=>B<=ad.block
 | _=>True
def Trimmed (xs:List Nat) (k:Nat):Prop:=k<=xs.length/\(∀j,k<=j->j<xs.length->lim xs j=0)/\(0<k->lim xs (k-1)≠0)
theorem Hn (xs:List Nat) (h:∀j,j<xs.length->lim xs j=0):lv xs=0:=by
 induction xs with
 | nil=>rfl
 | cons x xs ih =>
   have h0:=h 0 (by simp);have:=ih (fun j hj=>by have:=h (j+1) (by simp;omega);simpa [lim] using this);simp[lim]at h0;simp[lv,h0,this]
theorem Qc (xs:List Nat) (k i:Nat) (h:i<k):lim (xs.take k) i=lim xs i:=by
 simp[lim,h]
theorem Qe (xs:List Nat) (k i:Nat):lim (xs.drop k) i=lim xs (k+i):=by
 simp[lim,List.getElem?_drop]
theorem DM (xs:List Nat) (i:Nat) (h:i<xs.length):lim xs i=xs[i]:=by
 simp[lim,h]
theorem Trimmed.lv {xs:List Nat} {k:Nat} (h:Trimmed xs k):lv (xs.take k)=lv xs:=by
 obtain⟨h1,h2,_⟩:=h;have e:xs=xs.take k++xs.drop k:=(List.take_append_drop k xs).symm;have:Nt.lv (xs.drop k)=0:=Hn _ (fun j hj=>by rw[Qe];simp at hj;exact h2 _ (by omega) (by omega))
 conv=>rhs;rw[e]
 rw[Dk,this];simp
theorem Trimmed.canon {xs:List Nat} {k:Nat} (h:Trimmed xs k) (hr:∀x∈xs,x<1000000000):Canon (xs.take k):=by
 obtain⟨h1,h2,h3⟩:=h;refine⟨fun x hx=>hr x (List.mem_of_mem_take hx),?_⟩;rw[List.getLast?_eq_getElem?]
 by_cases hk:k=0
 · subst hk;simp
 · have a:(xs.take k).length=k:=by simp;omega
   rw[a];have:=h3 (by omega);rw[DM _ _ (by omega)]at this;rw[List.getElem?_take,if_pos (by omega),List.getElem?_eq_getElem (by omega)];intro e;exact this (Option.some.inj e)
def Row (t:TypeId) (w:World) (g:Nat) (zs:List Nat):Prop :=
 w.heap[g]? = some (.cells (zs.map fun x:Nat=>Value.int .u64 (x:Int)).toArray t (0,0))
theorem Row.lt {t:TypeId} {w:World} {g:Nat} {zs:List Nat} (h:Row t w g zs):g<w.heap.size :=
 (Array.getElem?_eq_some_iff.1 h).1
theorem Row.cell {t:TypeId} {w:World} {g:Nat} {zs:List Nat} (h:Row t w g zs) {i:Nat} (hi:i<zs.length) :
 w.cell? ⟨g,i,none⟩=some (.int .u64 (lim zs i)):=by
 unfold Row at h;simp only[World.cell?,h];simp[lim,hi]
theorem Row.frozen {t:TypeId} {w:World} {g:Nat} {zs:List Nat} (h:Row t w g zs) (i:Nat):w.frozen? ⟨g,i,none⟩=false:=by
 unfold Row at h;simp[World.frozen?,h]
theorem Row.set {t:TypeId} {w:World} {g:Nat} {zs:List Nat} (h:Row t w g zs) (i:Nat) (y:Nat) :
 Row t (w.setCell ⟨g,i,none⟩ (.int .u64 (y:Int))) g (zs.set i y):=by
 unfold Row at h ⊢;simp only[World.setCell,Array.getElem?_modify,h];simp[List.map_set]
theorem Kx (n:Nat):madeCells #[.int .u64 0] n=((List.replicate n 0).map fun x:Nat=>Value.int .u64 (x:Int)).toArray:=by
 unfold madeCells;apply Array.ext
 · simp
 · intro i h1 h2;have e:i%1=0:=Nat.mod_one i;simp[e]
theorem Row.made0 (t:TypeId) (w:World) (n:Nat):Row t (w.alloc (.cells (madeCells #[.int .u64 0] n) t)) w.heap.size (List.replicate n 0):=by
 unfold Row;rw[heap_alloc_new,Kx]
theorem Row.sl {t:TypeId} {w:World} {g:Nat} {zs:List Nat} (h:Row t w g zs):Sl w (.slice (some ⟨g,0,none⟩) zs.length zs.length) zs :=
 Sl.mk h.lt (Nat.le_refl _) (fun i hi=>by rw[Nat.zero_add];exact h.cell hi)
def lo (xs:List Nat) (k:Nat):Nat:=lv (xs.take k)
theorem Gk (xs:List Nat) (i:Nat) (h:xs.length<=i):lim xs i=0:=by
 simp[lim,h]
theorem Ch (xs:List Nat) (k:Nat):lo xs (k+1)=lo xs k+1000000000^k*lim xs k:=by
 unfold lo
 by_cases h:k<xs.length
 · rw[List.take_succ_eq_append_getElem h,Dk];simp only[lv,List.length_take,Nat.min_eq_left (Nat.le_of_lt h),DM _ _ h,Nat.mul_zero,Nat.add_zero]
 · rw[List.take_of_length_le (by omega),List.take_of_length_le (by omega),Gk _ _ (by omega)];simp
theorem DB (xs:List Nat):lo xs 0=0:=by simp[lo,lv]
theorem DN (xs:List Nat) (k:Nat) (h:xs.length<=k):lo xs k=lv xs:=by
 unfold lo;rw[List.take_of_length_le h]
theorem UI (xs:List Nat) (k y:Nat):lo (xs.set k y) k=lo xs k:=by
 unfold lo;rw[List.take_set_of_le (Nat.le_refl _)]
theorem Hd (xs:List Nat) (k y:Nat) (h:k<xs.length):lim (xs.set k y) k=y:=by
 simp[lim,h]
theorem Bi (xs:List Nat) (k j y:Nat) (h:j≠k):lim (xs.set k y) j=lim xs j:=by
 simp[lim,Ne.symm h]
theorem DV (n j:Nat):lim (List.replicate n 0) j=0:=by
 by_cases h:j<n
 · simp[lim,h]
 · exact Gk _ _ (by simp;omega)
def InR (xs:List Nat):Prop:=∀x∈xs,x<1000000000
theorem InR.lim {xs:List Nat} (h:InR xs) (i:Nat):lim xs i<1000000000:=by
 by_cases hi:i<xs.length
 · rw[DM _ _ hi];exact h _ (List.getElem_mem hi)
 · rw[Gk _ _ (by omega)];omega
theorem InR.set {xs:List Nat} (h:InR xs) (k y:Nat) (hy:y<1000000000):InR (xs.set k y):=by
 intro x hx
 rcases List.mem_or_eq_of_mem_set hx with h' | rfl
 · exact h x h'
 · exact hy
theorem InR.zeros (n:Nat):InR (List.replicate n 0):=by
 intro x hx;rw[List.eq_of_mem_replicate hx];omega
theorem Ky {xs:List Nat} (h:InR xs):lv xs<1000000000^xs.length:=by
 induction xs with
 | nil=>simp[lv]
 | cons x xs ih =>
   have h1:=h x (by simp);have h2:=ih (fun y hy=>h y (by simp[hy]));simp only[lv,List.length_cons,Nat.pow_succ];generalize 1000000000^xs.length=B at *;omega
theorem U0 {xs:List Nat} (h:InR xs) (k:Nat):lo xs k<1000000000^k:=by
 have:=Ky (xs:=xs.take k) (fun x hx=>h x (List.mem_of_mem_take hx));unfold lo;have h2:(xs.take k).length<=k:=by simp;omega
 exact Nat.lt_of_lt_of_le this (Nat.pow_le_pow_right (by omega) h2)
theorem Canon.ge {xs:List Nat} (h:Canon xs) (h0:xs≠[]):1000000000^(xs.length-1)<=lv xs:=by
 obtain⟨ys,y,rfl⟩:∃ys y,xs=ys++[y]:=⟨xs.dropLast,xs.getLast h0,(List.dropLast_concat_getLast h0).symm⟩;have hy:y≠0:=by have:=h.2;simp at this;exact this
 rw[Dk];simp only[List.length_append,List.length_cons,List.length_nil,lv];have:1000000000^ys.length*1<=1000000000^ys.length*(y+1000000000*0):=Nat.mul_le_mul_left _ (by omega);simp at this ⊢;omega
theorem Canon.len_le {xs:List Nat} (h:Canon xs) {k:Nat} (hk:lv xs<1000000000^k):xs.length<=k:=by
 by_cases h0:xs=[]
 · simp[h0]
 · have:=h.ge h0;have h1:1000000000^(xs.length-1)<1000000000^k:=by omega
   have:=(Nat.pow_lt_pow_iff_right (by omega:1<1000000000)).1 h1;omega
theorem Canon.len_mono {xs ys:List Nat} (h:Canon xs) (hy:Canon ys) (a:lv xs<=lv ys):xs.length<=ys.length :=
 h.len_le (Nat.lt_of_le_of_lt a (Ky hy.1))
def Co (xs:List Nat):List Value:=xs.map fun x:Nat=>Value.int .u64 (x:Int)
def Own (t:TypeId) (B:Nat) (w:World) (v:Value) (n:Nat) (xs:List Nat):Prop:=w.ownsRow B t 1 v n (Co xs)
theorem Fy (xs:List Nat) (x:Nat):Co xs++[Value.int .u64 (x:Int)]=Co (xs++[x]):=by simp[Co]
theorem Own.len {t:TypeId} {B:Nat} {w:World} {v:Value} {n:Nat} {xs:List Nat} (h:Own t B w v n xs):xs.length=n:=by
 have:=h.1
 simpa [Co] using this
theorem Own.sl {t:TypeId} {B:Nat} {w:World} {v:Value} {n:Nat} {xs:List Nat} (h:Own t B w v n xs):Sl w v xs:=by
 have hl:=h.len;subst hl
 rcases h.2 with⟨rfl,h0⟩ | ⟨g,cap,cur,rfl,hg,hh,hn,d,a,ht⟩
 · have:xs=[]:=List.length_eq_zero_iff.1 h0;subst this;exact Sl.nil _
 · refine Sl.mk (Array.getElem?_eq_some_iff.1 hh).1 hn (fun i hi=>?_);have:=World.ownsRow.cellAt h i (by omega);rw[Nat.zero_add,this];simp[Co,lim,hi]
theorem Own.from {t:TypeId} {B:Nat} {w:World} {v:Value} {n:Nat} {xs:List Nat} (h:Own t B w v n xs):From B v:=by
 rcases h.2 with⟨rfl,h0⟩ | ⟨g,cap,cur,rfl,hg,_⟩
 · trivial
 · exact hg
theorem Own.below {t:TypeId} {B:Nat} {w w':World} {v:Value} {n:Nat} {xs:List Nat} (h:Own t B w v n xs) (hb:Below w.heap.size w w'):Own t B w' v n xs:=by
 obtain⟨h1,h2⟩:=h;refine⟨h1,?_⟩
 rcases h2 with h2 | ⟨g,cap,cur,hv,hg,hh,r⟩
 · exact Or.inl h2
 · exact Or.inr ⟨g,cap,cur,hv,hg,by rw[hb.block g (Array.getElem?_eq_some_iff.1 hh).1];exact hh,r⟩
theorem Cj (w:World) (v:Value) (t:TypeId):∀j u,[v][j]? = some u->(w.alloc (.cells #[v] t)).cell? (Addr.add ⟨w.heap.size,0,none⟩ j)=some u:=by
 intro j u hj
 match j,hj with
 | 0,hj =>
   simp at hj;subst hj;simp[Addr.add]
theorem BP (k:IntKind) (x:Int):∀u∈[Value.int k x],u.oneCell'=true:=by
 intro u hu;simp at hu;subst hu;rfl
def BQ (n:Nat):Prop:=n<1000000000^200
theorem LB (zs:List Nat) (p y:Nat) (h:p<zs.length):lv (zs.set p y)+1000000000^p*lim zs p=lv zs+1000000000^p*y:=by
 induction zs generalizing p with
 | nil=>simp at h
 | cons z zs ih =>
   cases p with
   | zero=>simp[lv,lim];omega
   | succ p =>
     have:=ih p (by simpa using h);have e:lim (z::zs) (p+1)=lim zs p:=by simp[lim]
     rw[e];simp only[List.set_cons_succ,lv,Nat.pow_succ];rw[Nat.mul_comm (1000000000^p) 1000000000,Nat.mul_assoc,Nat.mul_assoc];omega
def Num (w:World) (v:Value) (n:Nat):Prop:=∃xs,Canon xs/\lv xs=n/\Sl w v xs
theorem Num.below {w w':World} {v:Value} {n:Nat} (h:Num w v n) (hb:Below w.heap.size w w'):Num w' v n:=by
 obtain⟨xs,h1,h2,h3⟩:=h;exact⟨xs,h1,h2,h3.below hb⟩
end Nt
end
section
open Go.RowKit
namespace Nt
def A5 (l:List UInt8):Nat:=l.foldl (fun a c=>a*10+(c.toNat-48)) 0
def AE (c:UInt8):Prop:=48<=c.toNat/\c.toNat<=57
theorem LC (l:List UInt8) (a:Nat):l.foldl (fun a c=>a*10+(c.toNat-48)) a=a*10^l.length+A5 l:=by
 induction l generalizing a with
 | nil=>simp[A5]
 | cons c l ih =>
   simp only[List.foldl_cons,List.length_cons,A5];rw[ih,ih (0*10+(c.toNat-48)),Nat.pow_succ,Nat.zero_mul,Nat.zero_add,Nat.add_mul,Nat.mul_assoc,Nat.mul_comm 10];omega
theorem Br (l m:List UInt8):A5 (l++m)=A5 l*10^m.length+A5 m:=by
 unfold A5;rw[List.foldl_append,LC];rfl
theorem E9:A5 []=0:=rfl
theorem C8 (c:UInt8) (l:List UInt8):A5 (c::l)=(c.toNat-48)*10^l.length+A5 l:=by
 rw[show c::l=[c]++l from rfl,Br];simp[A5]
theorem DC {l:List UInt8} (h:∀c∈l,AE c):A5 l<10^l.length:=by
 induction l with
 | nil=>simp[A5]
 | cons c l ih =>
   have h1:=h c (by simp);have h2:=ih (fun d hd=>h d (by simp[hd]));rw[C8,List.length_cons,Nat.pow_succ];have h3:(c.toNat-48)*10^l.length<=9*10^l.length:=Nat.mul_le_mul_right _ (by have:=h1.2;omega);omega
theorem Kz {l:List UInt8} (h:∀c∈l,AE c) (h0:l≠[]) (hl:l.length<=9):Lib.parseUintB 64 l=.ok (A5 l):=by
 have key:∀(m:List UInt8) (a:Nat),(∀c∈m,AE c)->a*10^m.length+10^m.length<=1000000000->Lib.parseUintM (2^64-1) a m=.ok (a*10^m.length+A5 m):=by
  intro m
  induction m with
  | nil=>intro a _ _;simp[Lib.parseUintM,A5]
  | cons c m ih =>
    intro a hm hb;have h1:=hm c (by simp);rw[List.length_cons,Nat.pow_succ]at hb;have hp:0<10^m.length:=Nat.pow_pos (by omega)
    have ha:a*10^m.length<=100000000:=by
     rw[<-Nat.mul_assoc]at hb;omega
    have aa:a<=100000000:=Nat.le_trans (Nat.le_mul_of_pos_right a hp) ha;have hc:=h1.2;unfold Lib.parseUintM;rw[if_pos (show 48<=c.toNat/\c.toNat<=57 from h1),if_neg (by omega),if_neg (by omega),ih _ (fun d hd=>hm d (by simp[hd])) ?_]
    · rw[C8,List.length_cons,Nat.pow_succ,Nat.add_mul,Nat.mul_assoc,Nat.mul_comm 10]
      congr 1;omega
    · have h3:(c.toNat-48)*10^m.length<=9*10^m.length:=Nat.mul_le_mul_right _ (by omega);have h4:a*(10^m.length*10)=a*10*10^m.length:=by rw[Nat.mul_comm (10^m.length),Nat.mul_assoc]
      rw[Nat.add_mul];omega
 unfold Lib.parseUintB;rw[if_neg h0,key l 0 h ?_]
 · rw[Nat.zero_mul,Nat.zero_add]
 · rw[Nat.zero_mul,Nat.zero_add];exact Nat.le_trans (Nat.pow_le_pow_right (by omega) hl) (by decide)
theorem AX (d:Nat) (h:d<10):(UInt8.ofNat (48+d)).toNat=48+d:=by
 rw[UInt8.toNat_ofNat'];omega
theorem A7 (u:Nat):∀c∈Lib.decDigits u,AE c:=by
 induction u using Nat.strongRecOn with
 | _ u ih =>
   rw[Lib.decDigits]
   split
   · intro c hc;simp only[List.mem_cons,List.not_mem_nil,or_false]at hc;subst hc;unfold AE;rw[AX _ (by omega)];omega
   · intro c hc
     rcases List.mem_append.1 hc with h | h
     · exact ih (u/10) (by omega) c h
     · simp only[List.mem_cons,List.not_mem_nil,or_false]at h;subst h;unfold AE;rw[AX _ (by omega)];omega
theorem Au (u:Nat):A5 (Lib.decDigits u)=u:=by
 induction u using Nat.strongRecOn with
 | _ u ih =>
   rw[Lib.decDigits]
   split
   · simp only[A5,List.foldl_cons,List.foldl_nil,AX u (by omega)];omega
   · rw[Br,ih (u/10) (by omega)];simp only[List.length_cons,List.length_nil,A5,List.foldl_cons,List.foldl_nil,AX _ (Nat.mod_lt u (show 0<10 by omega))];omega
theorem AK (u:Nat):Lib.decDigits u≠[]:=by
 rw[Lib.decDigits]
 split<;>simp
theorem G9 (l m:List UInt8) (h:l≠[]):(l++m).head? = l.head?:=by
 cases l with
 | nil=>exact absurd rfl h
 | cons a l=>rfl
theorem EA (u:Nat) (h:0<u):(Lib.decDigits u).head?≠some 48:=by
 induction u using Nat.strongRecOn with
 | _ u ih =>
   rw[Lib.decDigits]
   split
   · intro e;simp only[List.head?_cons,Option.some.injEq]at e;have:=congrArg UInt8.toNat e;rw[AX _ (by omega)]at this;simp at this;omega
   · rw[G9 _ _ (AK _)];exact ih (u/10) (by omega) (by omega)
theorem Du:∀(n:Nat) (l:List UInt8),l.length=n->l≠[]->(∀c∈l,AE c)->(l.length=1∨l.head?≠some 48)->Lib.decDigits (A5 l)=l:=by
 intro n
 induction n with
 | zero=>intro l hl h0;exact absurd (List.length_eq_zero_iff.1 hl) h0
 | succ n ih =>
   intro l hl h0 hd hh;obtain⟨m,c,rfl⟩:∃m c,l=m++[c]:=⟨l.dropLast,l.getLast h0,(List.dropLast_concat_getLast h0).symm⟩;have hc:=hd c (by simp)
   have ad:UInt8.ofNat (48+(c.toNat-48))=c:=by
    apply UInt8.toNat_inj.1;rw[AX _ (by have:=hc.2;omega)];have:=hc.1;omega
   have hv:A5 (m++[c])=A5 m*10+(c.toNat-48):=by rw[Br];simp[A5]
   have af:c.toNat-48<10:=by have:=hc.2;omega
   cases m with
   | nil =>
     rw[hv];simp only[E9,Nat.zero_mul,Nat.zero_add,List.nil_append];rw[Lib.decDigits_one af,ad]
   | cons a m =>
     have ae:(a::m).length=n:=by simp at hl ⊢;omega
     have aa:a≠48:=by
      rcases hh with h | h
      · simp at h
      · simpa using h
     have ha:=hd a (by simp)
     have ag:0<A5 (a::m):=by
      rw[C8]
      have h1:1<=a.toNat-48:=by
       have:a.toNat≠48:=fun e=>aa (UInt8.toNat_inj.1 e);have:=ha.1;omega
      have h2:1*10^m.length<=(a.toNat-48)*10^m.length:=Nat.mul_le_mul_right _ h1;have h3:0<10^m.length:=Nat.pow_pos (by omega);omega
     have hi:=ih (a::m) ae (by simp) (fun d h=>hd d (by simp at h ⊢;rcases h with h | h<;>simp[h])) (.inr (by simpa using aa));rw[hv,Lib.decDigits,dif_neg (by omega),show (A5 (a::m)*10+(c.toNat-48))/10=A5 (a::m) by omega,show (A5 (a::m)*10+(c.toNat-48))%10=c.toNat-48 by omega,hi,ad]
theorem Ho (n:Nat) (l:List UInt8):A5 (List.replicate n 48++l)=A5 l:=by
 induction n with
 | zero=>simp
 | succ n ih=>rw[List.replicate_succ,List.cons_append,C8,ih];simp
theorem AI {u k:Nat} (h:u<10^k) (hk:0<k):(Lib.decDigits u).length<=k:=by
 induction k generalizing u with
 | zero=>omega
 | succ k ih =>
   rw[Lib.decDigits]
   split
   · simp
   · rename_i h10;have hu:u/10<10^k:=by rw[Nat.pow_succ]at h;omega
     have a:0<k:=by
      rcases Nat.eq_zero_or_pos k with e | e
      · subst e;simp at h;omega
      · exact e
     have:=ih hu a;simp;omega
theorem AL (u k:Nat) (hk:0<k):(Lib.decDigits u).length<=k↔u<10^k:=by
 constructor
 · intro h;have h1:=DC (A7 u);rw[Au]at h1;exact Nat.lt_of_lt_of_le h1 (Nat.pow_le_pow_right (by omega) h)
 · intro h;exact AI h hk
def K0 (x:Nat):List UInt8:=List.replicate (9-(Lib.decDigits x).length) 48++Lib.decDigits x
theorem K1 {x:Nat} (h:x<1000000000):(K0 x).length=9:=by
 have:=AI (k:=9) (u:=x) (by simpa using h) (by omega);simp[K0];omega
theorem Hp (u x:Nat) (hu:0<u) (hx:x<1000000000):Lib.decDigits (u*1000000000+x)=Lib.decDigits u++K0 x:=by
 have hl:=K1 hx
 have hv:A5 (Lib.decDigits u++K0 x)=u*1000000000+x:=by
  rw[Br,hl,Au,K0,Ho,Au]
 rw[<-hv];refine Du _ _ rfl (by simp[AK]) ?_ (.inr ?_)
 · intro c hc
   rcases List.mem_append.1 hc with h | h
   · exact A7 u c h
   · rcases List.mem_append.1 h with h | h
     · rw[List.eq_of_mem_replicate h];exact⟨by decide,by decide⟩
     · exact A7 x c h
 · rw[G9 _ _ (AK _)];exact EA u hu
end Nt
end
section
open Go.RowKit Go.Shelf
namespace Nt
def Qf (l:List UInt8):Bool:=!l.isEmpty&&(decide (l.length<=300)&&(l.all (fun c=>decide (48<=c.toNat/\c.toNat<=57))&&(decide (l.length=1)||decide (l.head?≠some 48))))
def isN (s:ByteArray):Bool:=Qf s.data.toList
def num (n:Nat):ByteArray:=⟨(Lib.decDigits n).toArray⟩
@[irreducible] def mxd:Nat:=300
theorem C9:mxd=300:=by unfold mxd;rfl
def Lim:Nat:=10^mxd
def Gl:List UInt8:=[48,49,50,51,52,53,54,55,56,57]
theorem DW (l:List UInt8):Qf l=true↔l≠[]/\l.length<=300/\(∀c∈l,AE c)/\(l.length=1∨l.head?≠some 48):=by
 unfold Qf AE;simp
theorem Ct {n:Nat} (h:n<Lim):isN (num n)=true:=by
 unfold isN num;rw[DW];refine⟨AK n,by rw[<-C9];exact AI (k:=mxd) h (by rw[C9];omega),A7 n,?_⟩
 rcases Nat.eq_zero_or_pos n with e | e
 · subst e;left;rw[Lib.decDigits_one (by omega)];rfl
 · right;exact EA n e
theorem BF {s:ByteArray} (h:isN s=true):∃n,n<Lim/\s=num n:=by
 unfold isN at h;rw[DW]at h;obtain⟨h1,h2,h3,h4⟩:=h;refine⟨A5 s.data.toList,?_,?_⟩
 · exact Nat.lt_of_lt_of_le (DC h3) (Nat.pow_le_pow_right (by omega) (by rw[C9];exact h2))
 · unfold num;rw[Du _ _ rfl h1 h3 h4]
theorem Qg (l:List UInt8):Lib.trimS l Gl=[]↔∀c∈l,AE c:=by
 have hd:∀c:UInt8,Gl.contains c=true↔AE c:=by
  intro c;unfold Gl AE;simp only[List.contains_eq_mem,List.mem_cons,List.not_mem_nil,or_false,decide_eq_true_eq,<-UInt8.toNat_inj];simp only[UInt8.reduceToNat];omega
 unfold Lib.trimS Lib.trimLeftS Lib.trimRightS;constructor
 · intro h
   have key:∀m:List UInt8,m.dropWhile (Gl.contains ·)=[]->∀c∈m,AE c:=by
    intro m
    induction m with
    | nil=>intro _ c hc;exact absurd hc (by simp)
    | cons a m ih =>
      intro h c hc;rw[List.dropWhile_cons]at h
      split at h
      · rename_i ha
        rcases List.mem_cons.1 hc with e | e
        · rw[e];exact(hd a).1 ha
        · exact ih h c e
      · cases h
   by_cases hr:(l.reverse.dropWhile (Gl.contains ·))=[]
   · intro c hc;exact key _ hr c (by simpa using hc)
   · exfalso;have d:(l.reverse.dropWhile (Gl.contains ·)).reverse≠[]:=by simpa using hr
     have h1:=key _ h
     obtain ⟨a,m,e⟩:∃a m,l.reverse.dropWhile (Gl.contains ·)=a::m:=by
      cases hh:l.reverse.dropWhile (Gl.contains ·) with
      | nil=>exact absurd hh hr
      | cons a m=>exact⟨a,m,rfl⟩
     have h2:=h1 a (by rw[e];simp)
     have h3:Gl.contains a=false:=by
      have:=List.head?_dropWhile_not (Gl.contains ·) l.reverse;rw[e]at this
      simpa using this
     rw[(hd a).2 h2]at h3
     cases h3
 · intro h
   have h1:l.reverse.dropWhile (Gl.contains ·)=[]:=by
    have key:∀m:List UInt8,(∀c∈m,AE c)->m.dropWhile (Gl.contains ·)=[]:=by
     intro m
     induction m with
     | nil=>intro _;rfl
     | cons a m ih =>
       intro h;rw[List.dropWhile_cons,if_pos ((hd a).2 (h a (by simp)))];exact ih (fun c hc=>h c (by simp[hc]))
    exact key _ (fun c hc=>h c (by simpa using hc))
   rw[h1];rfl
theorem Oh (s:ByteArray):isN s=true↔s.toList.isEmpty=false/\s.size<=300/\Lib.trimS s.data.toList [48,49,50,51,52,53,54,55,56,57]=[]/\(s.size=1∨∀h:0<s.size,s[0].toNat≠48):=by
 unfold isN;rw[DW,show ([48,49,50,51,52,53,54,55,56,57]:List UInt8)=Gl from rfl,Qg,Lib.toList_data];have hl:s.data.toList.length=s.size:=by simp
 rw[hl];constructor
 · rintro ⟨h1,h2,h3,h4⟩;refine⟨by simpa using h1,h2,h3,?_⟩
   rcases h4 with h4 | h4
   · exact .inl h4
   · right;intro h e;apply h4;rw[List.head?_eq_getElem?,List.getElem?_eq_getElem (by omega)];refine congrArg some (UInt8.toNat_inj.1 ?_);rw[Array.getElem_toList];exact e
 · rintro ⟨h1,h2,h3,h4⟩;refine⟨by simpa using h1,h2,h3,?_⟩
   rcases h4 with h4 | h4
   · exact .inl h4
   · right;intro e
     have h0:0<s.data.toList.length:=by
      rcases Nat.eq_zero_or_pos s.data.toList.length with h | h
      · rw[List.length_eq_zero_iff.1 h]at e;simp at e
      · exact h
     rw[List.head?_eq_getElem?,List.getElem?_eq_getElem h0]at e;refine h4 (by omega) ?_;have:=congrArg UInt8.toNat (Option.some.inj e);rw[Array.getElem_toList]at this;exact this
theorem Ak {a b:Bool} (h:a=b):Ending.returned (.bool a)=.returned (.bool b):=by rw[h]
theorem Bz (s:ByteArray) (w:World) (hs:s.size<=9223372036854775807) :
 Calls Tryz.prog 129 #[.string s] w fun e w'=>e=.returned (.bool (isN s))/\Below w.heap.size w w':=by
 have a:=Kw s w hs;have HP:=zh (Oh s)
 have d:¬(s.toList.isEmpty=false/\s.size<=300/\Lib.trimS s.data.toList [48,49,50,51,52,53,54,55,56,57]=[]/\(s.size=1∨∀h:0<s.size,s[0].toNat≠48))->isN s=false:=fun h=>by
  cases hh:isN s with
  | false=>rfl
  | true=>exact absurd (HP.out.1 hh) h
 have HF:=zh d;clear d;generalize isN s=r at HP HF ⊢
 cases h0:s.toList.isEmpty with
 | true =>
   obtain rfl:r=false:=HF.out (by rw[h0];simp);go_enter Tryz.func129,Tryz.ntmps129;go_wp2;go_ret;exact⟨Ak (by simp),Below.refl _ _⟩
 | false =>
   have af:0<s.size:=by
    rcases Nat.eq_zero_or_pos s.size with h | h
    · have:s.toList=[]:=by rw[Lib.toList_data];exact List.length_eq_zero_iff.1 (by simpa using h)
      rw[this]at h0;cases h0
    · exact h
   by_cases h1:s.size<=300
   · by_cases ht:Lib.trimS s.data.toList [48,49,50,51,52,53,54,55,56,57]=[]
     · by_cases h2:s.size=1
       · obtain rfl:r=true:=HP.out.2 ⟨h0,h1,ht,.inl h2⟩;rw[ht]at a;have ad:((s.size:Int)==1)=true:=by rw[beq_iff_eq];omega
         clear ht h2;go_enter Tryz.func129,Tryz.ntmps129
         go_wp2_with (go_at_call 162;refine a.mono ?_;rintro e w' ⟨rfl,hb⟩)
         go_ret;exact⟨Ak (by simp),hb⟩
       · have ad:((s.size:Int)==1)=false:=by rw[beq_eq_false_iff_ne];omega
         rw[ht]at a
         by_cases h3:s[0].toNat=48
         · obtain rfl:r=false:=HF.out (fun h=>by rcases h.2.2.2 with h | h;(· exact h2 h);(· exact h af h3));have ae:((s[0].toNat:Int) != 48)=false:=by rw[h3];rfl
           clear ht h2 h3;go_enter Tryz.func129,Tryz.ntmps129
           go_wp2_with (go_at_call 162;refine a.mono ?_;rintro e w' ⟨rfl,hb⟩)
           go_ret;exact⟨Ak (by simp),hb⟩
         · obtain rfl:r=true:=HP.out.2 ⟨h0,h1,ht,.inr (fun _=>h3)⟩;have ae:((s[0].toNat:Int) != 48)=true:=by rw[bne_iff_ne];omega
           clear ht h2 h3;go_enter Tryz.func129,Tryz.ntmps129
           go_wp2_with (go_at_call 162;refine a.mono ?_;rintro e w' ⟨rfl,hb⟩)
           go_ret;exact⟨Ak (by simp),hb⟩
     · obtain rfl:r=false:=HF.out (fun h=>ht h.2.2.1);have aa:(Lib.trimS s.data.toList [48,49,50,51,52,53,54,55,56,57]).isEmpty=false:=by simpa using ht
       clear ht;generalize Lib.trimS s.data.toList [48,49,50,51,52,53,54,55,56,57]=tl at a aa;go_enter Tryz.func129,Tryz.ntmps129
       go_wp2_with (go_at_call 162;refine a.mono ?_;rintro e w' ⟨rfl,hb⟩)
       go_ret;exact⟨Ak (by simp),hb⟩
   · obtain rfl:r=false:=HF.out (fun h=>h1 h.2.1);go_enter Tryz.func129,Tryz.ntmps129;go_wp2;go_ret;exact⟨Ak (by simp),Below.refl _ _⟩
end Nt
end
section
open Go.RowKit
namespace Nt
def Qh (b off cap:Nat) (xs:List Nat) (w:World) (e:Ending) (w':World):Prop :=
 ∃k,e=.returned (.slice (some ⟨b,off,none⟩) k cap)/\Trimmed xs k/\w=w'
theorem Oi (w:World) (b off cap:Nat) (xs:List Nat) (hl:xs.length<=1000000) (d:xs.length<=cap)
 (hc:∀i,i<xs.length->w.cell? ⟨b,off+i,none⟩=some (.int .u64 (lim xs i))) :
 Calls Tryz.prog 164 #[.slice (some ⟨b,off,none⟩) xs.length cap] w (Qh b off cap xs w):=by
 go_enter Tryz.func164,Tryz.ntmps164;go_wp2
 go_loop [0] (fun v=>∃k,k<=xs.length/\v=.slice (some ⟨b,off,none⟩) k cap/\(∀j,k<=j->j<xs.length->lim xs j=0)) (fun v=>VB v)
 case atStart=>exact⟨_,Nat.le_refl _,rfl,fun j h h'=>by omega⟩
 case round =>
  obtain⟨k,hk,rfl,hz⟩:=hrel;have HZ:=zh hz;clear hz
  by_cases h0:0<k
  · have a:=hc (k-1) (by omega)
    by_cases hx:lim xs (k-1)=0
    · have HX:=zh hx;rw[hx]at a;clear hx hc;go_wp2;refine⟨⟨k-1,by omega,rfl,fun j h h'=>?_⟩,by simp only[VB];omega⟩
      by_cases e:j=k-1
      · rw[e];exact HX.out
      · exact HZ.out j (by omega) h'
    · have aa:((lim xs (k-1):Int)==0)=false:=by simp;exact hx
      have HX:=zh hx;clear hx hc;go_wp2;go_ret;exact⟨k,rfl,⟨hk,HZ.out,fun _=>HX.out⟩,rfl⟩
  · clear hc;go_wp2;go_ret;exact⟨k,rfl,⟨hk,HZ.out,fun h=>by omega⟩,rfl⟩
theorem Qi (w:World) :
 Calls Tryz.prog 164 #[.slice none 0 0] w fun e w'=>e=.returned (.slice none 0 0)/\w=w':=by
 go_enter Tryz.func164,Tryz.ntmps164;go_wp2;refine wp_loop_rounds 1 ?_;rw[rounds_succ];go_wp2;go_ret;exact⟨rfl,rfl⟩
def Te (w:World) (u:Value) (xs:List Nat) (e:Ending) (w':World):Prop :=
 ∃v k,e=.returned v/\Trimmed xs k/\Sl w v (xs.take k)/\(∀B,From B u->From B v)/\w=w'
theorem Dv (w:World) (v:Value) (xs:List Nat) (hl:xs.length<=1000000) (hs:Sl w v xs) :
 Calls Tryz.prog 164 #[v] w (Te w v xs):=by
 rcases hs.shape with⟨rfl,rfl⟩ | ⟨b,off,cap,rfl,hb,d,hc⟩
 · refine(Qi w).mono ?_;rintro e w' ⟨rfl,rfl⟩;exact⟨_,0,rfl,⟨Nat.le_refl _,fun j _ h=>absurd h (by simp),fun h=>by omega⟩,Sl.nil _,fun _ h=>h,rfl⟩
 · refine(Oi w b off cap xs hl d hc).mono ?_;rintro e w' ⟨k,rfl,ht,rfl⟩;have a:(xs.take k).length=k:=by have:=ht.1;simp;omega
   refine⟨_,k,rfl,ht,?_,fun _ h=>h,rfl⟩;have:=Sl.mk (w:=w) (b:=b) (off:=off) (cap:=cap) (xs:=xs.take k) hb (by have:=ht.1;omega) (fun i hi=>by rw[a]at hi;rw[Qc _ _ _ hi];exact hc i (by have:=ht.1;omega));rw[a]at this;exact this
end Nt
end
section
open Go.RowKit Go.Shelf
attribute [local go_sem] Oper.semAt_some
namespace Nt
abbrev B5 (n:Nat):={ i:Nat // i<n }
def CA (n k:Nat):List (B5 n):=((List.range k).filterMap fun j=>if h:n-1-j<n then some ⟨n-1-j,h⟩ else none)
theorem Dl (n:Nat):CA n 0=[]:=rfl
theorem CB (n k:Nat) (h:k<n):CA n (k+1)=CA n k++[⟨n-1-k,by omega⟩]:=by
 simp only[CA,List.range_succ,List.filterMap_append,List.filterMap_cons,List.filterMap_nil];rw[dif_pos (by omega)]
theorem GA (n k:Nat) (h:k<=n):(CA n k).length=k:=by
 induction k with
 | zero=>rfl
 | succ k ih=>rw[CB n k (by omega),List.length_append,ih (by omega)];rfl
def Keep2 (b c:Nat) (W W':World):Prop:=W'.heap[b]? = W.heap[b]?/\W'.heap[c]? = W.heap[c]?
theorem Keep2.refl (b c:Nat) (W:World):Keep2 b c W W:=⟨rfl,rfl⟩
theorem Keep2.trans {b c:Nat} {A B C:World} (h:Keep2 b c A B) (k:Keep2 b c B C):Keep2 b c A C:=⟨k.1.trans h.1,k.2.trans h.2⟩
theorem Keep2.of_below {b c n:Nat} {A B:World} (h:Below n A B) (hb:b<n) (hc:c<n):Keep2 b c A B:=⟨h.block b hb,h.block c hc⟩
theorem Keep2.setCell {b c:Nat} (W:World) (p:Addr) (v:Value) (hb:b≠p.block) (hc:c≠p.block):Keep2 b c W (W.setCell p v) :=
 ⟨Below.heap_setCell _ _ _ _ hb,Below.heap_setCell _ _ _ _ hc⟩
def SlAt (W:World) (b:Nat) (sv:Value) (xs:List Nat):Prop :=
 (xs=[]/\∃cap,sv=.slice none 0 cap)∨∃off cap,sv=.slice (some ⟨b,off,none⟩) xs.length cap/\∀j,j<xs.length->W.cell? ⟨b,off+j,none⟩=some (.int .u64 (lim xs j))
theorem SlAt.keep {W W':World} {b c:Nat} {sv:Value} {xs:List Nat} (h:SlAt W b sv xs) (hk:Keep2 b c W W'):SlAt W' b sv xs:=by
 rcases h with h | ⟨off,cap,h,hc⟩
 · exact .inl h
 · exact .inr ⟨off,cap,h,fun j hj=>(World.cell?_of_block (w:=W) hk.1).trans (hc j hj)⟩
theorem Oj (F:Fence) (n:Nat) (hf:F.fn 194) (ae:F.round=none) (hn:1<=n) (l Bs b off cap:Nat) (xs:List Nat) (hl:xs.length<=1000000) (J Jx:List (B5 xs.length)->World->Prop)
 (hY:∀pre (x:B5 xs.length) W,J pre W->pre.length<xs.length->YieldAt F (n-1) Tryz.prog l #[.int .i64 (x.1:Int),.int .u64 (lim xs x.1)] W fun e W' =>
   (e=.returned (.bool true)/\J (pre++[x]) W'/\Keep2 b Bs W W')∨(e=.returned (.bool false)/\Jx (pre++[x]) W'))
 (W:World) (ag:W.cell? ⟨Bs,0,none⟩=some (.slice (some ⟨b,off,none⟩) xs.length cap)) (hc:∀j,j<xs.length->W.cell? ⟨b,off+j,none⟩=some (.int .u64 (lim xs j))) (h0:J [] W) :
 CallsIn F n Tryz.prog 194 #[.func (.yield l) #[] #[],.pointer (some ⟨Bs,0,none⟩)] W fun e W'=>(∃v,e=.returned v) /\
  ((∃ys,ys=CA xs.length xs.length/\J ys W')∨(∃pre,(∃k,k<=xs.length/\pre=CA xs.length k)/\Jx pre W')):=by
 refine callsIn_of_wp Tryz.func194 rfl hf ?_ ae;simp only[Tryz.ntmps194,List.size_toArray,List.length_cons,List.length_nil,Nat.reduceAdd,Nat.reduceSub,Array.replicate_succ,Array.replicate_zero,List.push_toArray,List.append_toArray,List.nil_append,List.cons_append]
 gi_wp2
 gi_loopw [3] (fun i wr=>∃k:Nat,k<=xs.length/\i=.int .i64 ((xs.length:Int)-1-k)/\J (CA xs.length k) wr/\Keep2 b Bs W wr)
  (fun i _=>((intOf i)+1).toNat)
 case atStart=>exact⟨0,Nat.zero_le _,by simp,h0,Keep2.refl _ _ _⟩
 case round =>
  obtain⟨k,hk,rfl,ad,h⟩:=hrel
  by_cases hlt:k<xs.length
  · have ah:=(World.cell?_of_block (w:=W) (a:=⟨b,off+(xs.length-1-k),none⟩) h.1).trans (hc (xs.length-1-k) (by omega));have ak:=(World.cell?_of_block (w:=W) (a:=⟨Bs,0,none⟩) h.2).trans ag;obtain⟨fn,tmps,assign,body,hy,hR⟩:=hY _ ⟨xs.length-1-k,by omega⟩ wr ad (by rw[GA _ _ hk];exact hlt);dsimp only at hy;have ei:(xs.length:Int)-1-k=((xs.length-1-k:Nat):Int):=by omega
    rw[ei];obtain⟨q,d⟩:∃q,q=xs.length-1-k:=⟨_,rfl⟩;have hq:q<xs.length:=by omega
    have HB:(CA xs.length (k+1)=CA xs.length k++[⟨q,hq⟩]):=by rw[CB _ _ hlt];subst d;rfl
    replace HB:=zh HB;have HQ:Hid (q+k+1=xs.length):=by unfold Hid;omega
    have hx:(⟨xs.length-1-k,by omega⟩:B5 xs.length)=⟨q,hq⟩:=by subst d;rfl
    rw[<-d]at ah hy ⊢;rw[hx]at hR;clear d hx ei
    gi_wp2
    refine hR.mono ?_;rintro e W3 (⟨rfl,af,ai⟩ | ⟨rfl,aa⟩)
    · gi_wp2
      have aj:=HQ.out
      go_roundw
      case rel=>exact⟨k+1,by omega,congrArg (Value.int .i64) (by omega),by rw[HB.out];exact af,h.trans ai⟩
      case measure=>simp only[intOf];omega
    · gi_wp2
      refine bodyPost_ret (results_none rfl _ _ _) rfl ?_;exact⟨⟨_,rfl⟩,.inr ⟨_,⟨k+1,by omega,HB.out.symm⟩,aa⟩⟩
  · obtain rfl:k=xs.length:=by omega
    have ei:(xs.length:Int)-1-xs.length=-1:=by omega
    rw[ei]
    gi_wp2
    go_end0;exact⟨⟨_,rfl⟩,.inl ⟨_,rfl,ad⟩⟩
theorem I1 (F:Fence) (n:Nat) (hf:F.fn 194) (d:F.round=none) (l Bs cap:Nat) (J:List (B5 0)->World->Prop) (W:World) (h:W.cell? ⟨Bs,0,none⟩=some (.slice none 0 cap)) (h0:J [] W) :
 CallsIn F n Tryz.prog 194 #[.func (.yield l) #[] #[],.pointer (some ⟨Bs,0,none⟩)] W fun e W'=>(∃v,e=.returned v)/\J [] W':=by
 refine callsIn_of_wp Tryz.func194 rfl hf ?_ d;simp only[Tryz.ntmps194,List.size_toArray,List.length_cons,List.length_nil,Nat.reduceAdd,Nat.reduceSub,Array.replicate_succ,Array.replicate_zero,List.push_toArray,List.append_toArray,List.nil_append,List.cons_append]
 gi_wp2
 gi_loopw [3] (fun i wr=>i=.int .i64 (-1)/\J [] wr) (fun _ _=>0)
 case atStart=>exact⟨rfl,h0⟩
 case round =>
  obtain⟨rfl,a⟩:=hrel
  gi_wp2
  go_end0;exact⟨⟨_,rfl⟩,a⟩
theorem Dm (F:Fence) (n:Nat) (hf:F.fn 165) (d:F.round=none) (a:Option Addr) (len cap:Nat) (w:World) :
 CallsIn F n Tryz.prog 165 #[.slice a len cap] w fun e w'=>e=.returned (.func (.func 194) #[] #[.pointer (some ⟨w.heap.size,0,none⟩)])/\w'=w.alloc (.cells #[.slice a len cap] 140):=by
 refine callsIn_of_wp Tryz.func165 rfl hf ?_ d;simp only[Tryz.ntmps165,List.size_toArray,List.length_cons,List.length_nil,Nat.reduceAdd,Nat.reduceSub,Array.replicate_succ,Array.replicate_zero,List.push_toArray,List.append_toArray,List.nil_append,List.cons_append]
 gi_wp2
 go_ret;exact⟨rfl,rfl⟩
theorem Fz (F:Fence) (n:Nat) (hf:F.fn 194) (a:F.round=none) (hn:1<=n) (Bs b:Nat) (sv:Value) (xs:List Nat) (hl:xs.length<=1000000) (w:World) (d:Bs<w.heap.size) (hb:b<w.heap.size)
 (hc:w.cell? ⟨Bs,0,none⟩=some sv) (hI:SlAt w b sv xs) :
 SeqStopsK F n Tryz.prog 194 #[.pointer (some ⟨Bs,0,none⟩)] (fun x:B5 xs.length=>#[Value.int .i64 (x.1:Int),.int .u64 (lim xs x.1)]) (Keep2 b Bs)
  (fun ys=>ys=CA xs.length xs.length) (fun pre=>∃k,k<=xs.length/\pre=CA xs.length k) xs.length w:=fun l J Jx W hW _ _ hY h0=>by
 have aa:=(hW.cell (p:=⟨Bs,0,none⟩) d).trans hc
 rcases hI.keep (Keep2.of_below hW hb d) with⟨rfl,cap,rfl⟩ | ⟨off,cap,rfl,ad⟩
 · exact(I1 F n hf a l Bs cap J W aa h0).mono fun e W' ⟨he,hj⟩=>⟨he,.inl ⟨_,rfl,hj⟩⟩
 · exact(Oj F n hf a hn l Bs b off cap xs hl J Jx hY W aa ad h0).mono fun e W' h=>h
end Nt
end
section
open Go.RowKit Go.Sort Go.Lib Go.Shelf
namespace Nt
theorem K2 (w:World) (T:TypeId) (nd:Nat) (hs:nd<=24):Holds (fun(b:UInt8)=>Value.int .u8 (b.toNat:Int)) (w.alloc (.cells zeros24 T)) w.heap.size 0 (Array.replicate nd (0:UInt8)):=fun j hj=>by
 have a:j<nd:=by simpa using hj
 refine⟨?_,World.frozen?_alloc_new _ _ _ _⟩;rw[World.cell?_alloc_new,Nat.zero_add,zeros24_at _ (by omega),getElem!_pos _ j hj];simp
theorem J6 (w:World) (o:Obj) (dk:Array UInt8) (k:Nat):Below w.heap.size w ((putRow (fun(b:UInt8)=>Value.int .u8 (b.toNat:Int)) (w.alloc o) w.heap.size 0 dk).drewN k):=by
 rw[alloc_eq_grow];obtain⟨os',_,e⟩:=putRow_grow_new (fun(b:UInt8)=>Value.int .u8 (b.toNat:Int)) w #[o] w.heap.size 0 dk (Nat.le_refl _);rw[e];exact(Hm w os').trans (by have:=G8 (grow w os') k;exact this.mono (by simp[grow]))
theorem Gm (u:Nat) (a:u<18446744073709551616) (w:World) (ae:Lib.TabIs Tryz.prog w "internal/strconv.uint64pow10" .u64 Lib.pow10Tab) :
 Calls Tryz.prog 197 #[.int .u64 u,.int .i64 10] w fun e w'=>e=.returned (.string ⟨(Lib.decDigits u).toArray⟩)/\Below w.heap.size w w':=by
 by_cases hs:u<100
 · go_enter Tryz.func197,Tryz.ntmps197
   go_wp2_with (go_at_call 213;refine(Tryz.internal_strconv_small u hs _).mono ?_;rintro e w' ⟨rfl,rfl⟩)
   go_ret;exact⟨rfl,Below.refl _ _⟩
 · have af:1<=u:=by omega
   have ag:Lib.nDigits u<=20:=by have:=Lib.numDigits_eq u af a;split at this<;>omega
   have ad:Tryz.prog.arrayLen 208=24:=by kernel_rfl
   have ah:∀W,(Instr.sliceAt 208 (.pointer (some ⟨w.heap.size,0,none⟩)) none (some (.int .i64 (Lib.nDigits u:Int))) none).run Tryz.prog W=.ok (.slice (some ⟨w.heap.size,0,none⟩) (Lib.nDigits u) 24) W:=fun W=>by
    rw[run_sliceAt_array_h W 208 ⟨w.heap.size,0,none⟩ (by kernel_rfl) .i64 (Lib.nDigits u:Int) (by omega) (by rw[ad];omega)];go_simp
   have aa:=K2 w 208 (Lib.nDigits u) (by omega);have d:=Tryz.internal_strconv_formatBase10 w.heap.size 0 24 u (Array.replicate (Lib.nDigits u) 0) (w.alloc (.cells zeros24 208)) aa (by rw[Array.size_replicate];exact Lib.lt_pow_nDigits u) a (by rw[Array.size_replicate];omega);rw[Array.size_replicate]at d;have HH0:=zh aa;clear aa ad;go_enter Tryz.func197,Tryz.ntmps197
   go_wp2_with (first
    | (go_at_call 214;refine(Tryz.internal_strconv_numDigits u af a _ (Lib.tabIs_alloc ae _)).mono ?_;rintro e w' ⟨rfl,rfl⟩))
   go_at_call 215;refine d.mono ?_;rintro e w' ⟨rfl,k,v',dk,rfl,hF⟩
   have ai:(convert 150 9 (.slice (some ⟨w.heap.size,0,none⟩) (Lib.nDigits u) 24)).run Tryz.prog ((putRow (fun(b:UInt8)=>Value.int .u8 (b.toNat:Int)) (w.alloc (.cells zeros24 208)) w.heap.size 0 dk).drewN k)=.ok (.string ⟨(Lib.decDigits u).toArray⟩) ((putRow (fun(b:UInt8)=>Value.int .u8 (b.toNat:Int)) (w.alloc (.cells zeros24 208)) w.heap.size 0 dk).drewN k):=by
    have h:=run_convert_bytes_back (P:=Tryz.prog) ((putRow (fun(b:UInt8)=>Value.int .u8 (b.toNat:Int)) (w.alloc (.cells zeros24 208)) w.heap.size 0 dk).drewN k) 150 9 5 ⟨w.heap.size,0,none⟩ 24 (Lib.decDigits u) Tryz.underlying150 Tryz.underlying5 Tryz.underlying9 (fun j hj=>by
     rw[Lib.row_is_numeral hF j hj,Lib.add_plain,World.cell?_drewN];exact cell?_putRow (fun(b:UInt8)=>Value.int .u8 (b.toNat:Int)) _ w.heap.size 0 _ dk HH0.out (by rw[hF.size,Array.size_replicate]) j (by rw[hF.size];rw[Lib.decDigits_length]at hj;exact hj))
    rw[Lib.decDigits_length]at h;exact h
   go_wp2;go_ret;exact⟨rfl,J6 _ _ _ _⟩
theorem LD (u:Nat) (d:u<18446744073709551616) (w:World) (a:Lib.TabIs Tryz.prog w "internal/strconv.uint64pow10" .u64 Lib.pow10Tab) :
 Calls Tryz.prog 170 #[.int .u64 u,.int .i64 10] w fun e w'=>e=.returned (.string ⟨(Lib.decDigits u).toArray⟩)/\Below w.heap.size w w':=by
 go_enter Tryz.func170,Tryz.ntmps170
 go_wp2_with (go_at_call 197;refine(Gm u d _ a).mono ?_;rintro e w' ⟨rfl,hb⟩)
 go_ret;exact⟨rfl,hb⟩
end Nt
end
section
open Go.RowKit Go.Shelf
attribute [local go_sem] Oper.semAt_some
namespace Nt
def Fl (xs:List Nat) (x:B5 xs.length):List UInt8:=if x.1<xs.length-1 then K0 (lim xs x.1) else Lib.decDigits (lim xs x.1)
def txt (xs:List Nat) (pre:List (B5 xs.length)):List UInt8:=pre.foldl (fun a x=>a++Fl xs x) []
theorem Hq (xs:List Nat) (pre:List (B5 xs.length)) (x:B5 xs.length):txt xs (pre++[x])=txt xs pre++Fl xs x:=by
 simp[txt,List.foldl_append]
theorem VC {x:Nat} (h:x<1000000000):(Lib.decDigits x).length<=9:=AI (by simpa using h) (by omega)
theorem Ol {xs:List Nat} (hx:InR xs) (x:B5 xs.length):(Fl xs x).length<=9:=by
 unfold Fl
 split
 · rw[K1 (hx.lim _)];omega
 · exact VC (hx.lim _)
theorem Ny {xs:List Nat} (hx:InR xs) (pre:List (B5 xs.length)):(txt xs pre).length<=9*pre.length:=by
 have key:∀(pre:List (B5 xs.length)) (a:List UInt8),(pre.foldl (fun a x=>a++Fl xs x) a).length<=a.length+9*pre.length:=by
  intro pre
  induction pre with
  | nil=>intro a;simp
  | cons x pre ih =>
    intro a;have h1:=ih (a++Fl xs x);have h2:=Ol hx x;simp only[List.foldl_cons,List.length_cons,List.length_append]at h1 ⊢;omega
 have:=key pre []
 simpa [txt] using this
theorem Qj {xs:List Nat} (hx:Canon xs) (_h0:xs≠[]) (k:Nat) (hk:k<xs.length) :
 txt xs (CA xs.length (k+1))=Lib.decDigits ((lv (xs.drop (xs.length-1-k))))/\0<lv (xs.drop (xs.length-1-k)):=by
 have a:0<xs.length:=by omega
 induction k with
 | zero =>
   have hd:xs.drop (xs.length-1-0)=[lim xs (xs.length-1)]:=by
    rw[Nat.sub_zero,List.drop_eq_getElem_cons (by omega),DM _ _ (by omega),List.drop_of_length_le (by omega)]
   have d:lim xs (xs.length-1)≠0:=by
    have:=hx.2;rw[List.getLast?_eq_getElem?,List.getElem?_eq_getElem (by omega)]at this;rw[DM _ _ (by omega)];intro e;exact this (congrArg some e)
   rw[hd];simp only[lv,Nat.mul_zero,Nat.add_zero];refine⟨?_,by omega⟩;rw[CB _ _ a,Dl,Hq];simp[txt,Fl]
 | succ k ih =>
   obtain⟨h1,h2⟩:=ih (by omega)
   have hd:xs.drop (xs.length-1-(k+1))=lim xs (xs.length-1-(k+1))::xs.drop (xs.length-1-k):=by
    rw[List.drop_eq_getElem_cons (by omega),DM _ _ (by omega),show xs.length-1-(k+1)+1=xs.length-1-k by omega]
   rw[hd];simp only[lv];refine⟨?_,by omega⟩;rw[CB _ _ hk,Hq,h1,Fl,if_pos (by dsimp only;omega)];dsimp only;rw[Nat.add_comm (lim xs (xs.length-1-(k+1))),Nat.mul_comm 1000000000];exact(Hp _ _ h2 (InR.lim hx.1 _)).symm
theorem Tf {xs:List Nat} (hx:Canon xs) (h0:xs≠[]):txt xs (CA xs.length xs.length)=Lib.decDigits (lv xs):=by
 have a:0<xs.length:=List.length_pos_iff.2 h0;have:=(Qj hx h0 (xs.length-1) (by omega)).1;rw[Nat.sub_self,List.drop_zero,Nat.sub_add_cancel a]at this;exact this
theorem Om (w:World) (a:Option Addr) (cap:Nat) :
 Calls Tryz.prog 134 #[.slice a 0 cap] w fun e w'=>e=.returned (.tuple #[.string ⟨#[48]⟩,.int .i64 0])/\Below w.heap.size w w':=by
 go_enter Tryz.func134,Tryz.ntmps134;go_wp2;go_ret2;exact⟨rfl,(Below.refl _ w).alloc (Nat.le_refl _) _⟩
def U1 (w W1:World) (sv:Value) (xs:List Nat) (pre:List (B5 xs.length)) (W:World):Prop :=
 Lib.IsBuilderF 173 5 (w.heap.size+1) (w.heap.size+1) (Lib.byteCells (txt xs pre)) W/\Below (w.heap.size+1) W1 W/\W.heap[w.heap.size+1+1]? = some (.cells #[sv] 140 (0,0))
theorem Dw {A B:World} {row:Option Nat} {b:Nat} {c:Array Value} {t:TypeId} {f:Nat×Nat} (h:A.heap[b]? = some (.cells c t f)) (hg:A.grownBy B row) (hr:∀r,row=some r->∃o:Obj,A.heap[r]? = some o/\o.isCells=false) :
 B.heap[b]? = some (.cells c t f):=by
 rw[hg.block b (Array.getElem?_eq_some_iff.1 h).1 (fun e=>?_)]
 · exact h
 · obtain⟨o,ho,hc⟩:=hr b e.symm;rw[h]at ho
   cases ho
   cases hc
theorem EB {A B:World} {row:Option Nat} {T e:TypeId} {n b:Nat} {p:Value} {bs:List Value} (h:Lib.BuilderAtF T e n b p bs A) (hg:A.grownBy B row) (hr:∀r,row=some r->∃o:Obj,A.heap[r]? = some o/\o.isCells=false) :
 Lib.BuilderAtF T e n b p bs B:=by
 obtain⟨h1,v,h2,h3,h4⟩:=h;refine⟨h1,v,Dw h2 hg hr,?_,h4⟩;obtain⟨h5,h6⟩:=h3;refine⟨h5,?_⟩
 rcases h6 with h6 | ⟨g,cap,cur,fz,k1,k2,k3,k4⟩
 · exact .inl h6
 · exact .inr ⟨g,cap,cur,fz,k1,k2,Dw k3 hg hr,k4⟩
theorem J7 {A B:World} {row:Option Nat} {T e:TypeId} {n b:Nat} {bs:List Value} (h:Lib.IsBuilderF T e n b bs A) (hg:A.grownBy B row) (hr:∀r,row=some r->∃o:Obj,A.heap[r]? = some o/\o.isCells=false) :
 Lib.IsBuilderF T e n b bs B:=h.elim (fun k=>.inl (EB k hg hr)) (fun k=>.inr (EB k hg hr))
theorem E3 {A B:World} {T e:TypeId} {n b:Nat} {p:Value} {bs:List Value} (h:Lib.BuilderAtF T e n b p bs A) (hb:Below A.heap.size A B):Lib.BuilderAtF T e n b p bs B:=by
 obtain⟨h1,v,h2,h3,h4⟩:=h;have key:∀{g:Nat} {o:Obj},A.heap[g]? = some o->B.heap[g]? = some o:=fun h=>(hb.block _ (Array.getElem?_eq_some_iff.1 h).1).trans h;refine⟨h1,v,key h2,?_,h4⟩;obtain⟨h5,h6⟩:=h3;refine⟨h5,?_⟩
 rcases h6 with h6 | ⟨g,cap,cur,fz,k1,k2,k3,k4⟩
 · exact .inl h6
 · exact .inr ⟨g,cap,cur,fz,k1,k2,key k3,k4⟩
theorem Fm {A B:World} {T e:TypeId} {n b:Nat} {bs:List Value} (h:Lib.IsBuilderF T e n b bs A) (hb:Below A.heap.size A B):Lib.IsBuilderF T e n b bs B :=
 h.elim (fun k=>.inl (E3 k hb)) (fun k=>.inr (E3 k hb))
theorem KeepsOthers.of_others {W W':World} {t:TypeId} {b:Nat} {cs:Array Value} {T:TypeId} {fz:Nat×Nat} (h:Lib.OthersKept t (some b) W W') (hs:W.heap.size<=W'.heap.size) (hb:W.heap[b]? = some (.cells cs T fz)):KeepsOthers W W' :=
 ⟨hs,fun k o hk ho=>h k o hk (fun e=>by cases e;rw[hb]at hk;cases hk;cases ho) (fun c f e=>by subst e;cases ho)⟩
theorem Qk (c:Nat):Lib.repeatL (⟨#[48]⟩:ByteArray).data.toList c=List.replicate c 48:=by
 induction c with
 | zero=>rfl
 | succ c ih=>rw[Lib.repeatL,ih];rfl
theorem En (l:List UInt8):Lib.strCells ⟨l.toArray⟩=Lib.byteCells l:=rfl
theorem VD (w:World) (o1 o2 o3:Obj) :
 (((w.alloc o1).alloc o2).alloc o3).heap[w.heap.size]? = some o1/\(((w.alloc o1).alloc o2).alloc o3).heap[w.heap.size+1]? = some o2 /\
 (((w.alloc o1).alloc o2).alloc o3).heap[w.heap.size+1+1]? = some o3/\(((w.alloc o1).alloc o2).alloc o3).heap.size=w.heap.size+3/\Below w.heap.size w (((w.alloc o1).alloc o2).alloc o3) :=
 ⟨(Below.heap_alloc _ _ _ (by simp;omega)).trans ((Below.heap_alloc _ _ _ (by simp)).trans (heap_alloc_new _ _)),
  (Below.heap_alloc _ _ _ (by simp)).trans (by have:=heap_alloc_new (w.alloc o1) o2;simpa using this),
  by have:=heap_alloc_new ((w.alloc o1).alloc o2) o3;simpa using this,by simp,
  (((Below.refl _ w).alloc (Nat.le_refl _) _).alloc (by simp) _).alloc (by simp;omega) _⟩
def Dd (l:List UInt8):Value:=if 300<l.length then .tuple #[.string ⟨#[]⟩,.int .i64 2] else .tuple #[.string ⟨l.toArray⟩,.int .i64 0]
def K4 (l:List UInt8) (w:World) (e:Ending) (w':World):Prop:=e=.returned (Dd l)/\Below w.heap.size w w'
theorem E4 {W W':World} {e:TypeId} {b:Option Nat} (h:Below W.heap.size W W'):Lib.OthersKept e b W W' :=
 fun k _ hk _ _=>(h.block k (Array.getElem?_eq_some_iff.1 hk).1).trans hk
theorem Hr {w W1 W W':World} {sv:Value} {xs:List Nat} {pre:List (B5 xs.length)} {x:B5 xs.length} {b:Nat} {bs:List UInt8} {a:Act} {Ix:Code->List (B5 xs.length)->World->Prop}
 (s1:Lib.IsBuilderF 173 5 (w.heap.size+1) (w.heap.size+1) (Lib.byteCells (txt xs pre)) W) (s2:Below (w.heap.size+1) W1 W) (s3:W.heap[w.heap.size+1+1]? = some (.cells #[sv] 140 (0,0)))
 (hI:Lib.IsBuilderF 173 5 (w.heap.size+1) (w.heap.size+1) (Lib.byteCells (txt xs pre++bs)) W') (hb:Below (w.heap.size+1) W W') (ho:Lib.OthersKept 5 (some (w.heap.size+1)) W W') (d:b<w.heap.size)
 (hp:Fl xs x=bs) :
 ownPostK (Keep2 b (w.heap.size+1+1)) (U1 w W1 sv xs) Ix (pre++[x]) W .normal a W':=by
 have k3:W'.heap[w.heap.size+1+1]? = some (.cells #[sv] 140 (0,0)):=ho _ _ s3 (by intro e;injection e with e;omega) (by intro c f e;injection e with e1 e2;cases e2);refine⟨?_,⟨hb.block b (by omega),k3.trans s3.symm⟩,?_,s2.trans hb,k3⟩
 · rcases s1 with⟨_,v,h,_⟩ | ⟨_,v,h,_⟩
   · exact KeepsOthers.of_others ho hb.size h
   · exact KeepsOthers.of_others ho hb.size h
 · rw[Hq,hp];exact hI
theorem On (w:World) (a:Option Addr) (cap:Nat) (xs:List Nat) (hl:xs.length<=200) (hx:Hid (Canon xs)) (h0:0<xs.length) (b:Nat) (hb:b<w.heap.size)
 (ha:Hid (SlAt w b (.slice a xs.length cap) xs)) (hE:Hid (Env w)) :
 Calls Tryz.prog 134 #[.slice a xs.length cap] w (K4 (Lib.decDigits (lv xs)) w):=by
 have aR:((xs.length:Int)==0)=false:=by rw[beq_eq_false_iff_ne];omega
 refine(callsIn_wide (n:=9)).1 ?_;refine callsIn_of_wp_marks Tryz.func134 rfl trivial ?_ rfl;simp only[Tryz.ntmps134,List.size_toArray,List.length_cons,List.length_nil,Nat.reduceAdd,Nat.reduceSub,Array.replicate_succ,Array.replicate_zero,List.push_toArray,List.append_toArray,List.nil_append,List.cons_append]
 gi_wp2_with (first
  | (refine⟨trivial,?_⟩;gi_at_call 165;refine(Dm Fence.wide _ trivial rfl _ _ _ _).mono ?_;rintro e w' ⟨rfl,rfl⟩)
  | (gi_at_call 165;refine(Dm Fence.wide _ trivial rfl _ _ _ _).mono ?_;rintro e w' ⟨rfl,rfl⟩))
 obtain⟨f1,f2,f3,f4,f5⟩:=VD w (.cells #[.slice a xs.length cap] 140) (.cells #[.pointer none,.slice none 0 0] 173) (.cells #[.slice a xs.length cap] 140);generalize ((w.alloc (.cells #[.slice a xs.length cap] 140)).alloc (.cells #[.pointer none,.slice none 0 0] 173)).alloc (.cells #[.slice a xs.length cap] 140)=W1 at f1 f2 f3 f4 f5 ⊢;have au:W1.cell? ⟨w.heap.size+1+1,0,none⟩=some (.slice a xs.length cap):=by simp[World.cell?,f3]
 have ar:W1.cell? ⟨w.heap.size,0,none⟩=some (.slice a xs.length cap):=by simp[World.cell?,f1]
 have aq:SlAt W1 b (.slice a xs.length cap) xs:=ha.out.keep (c:=b) (Keep2.of_below f5 hb hb)
 refine wpIn_rangeFunc_ownF rfl (by decide) (gf:=194) (lb:=#[.pointer (some ⟨w.heap.size+1+1,0,none⟩)]) rfl trivial (enters_of Tryz.func194 (by kernel_rfl) rfl)
  (Fz Fence.wide _ trivial rfl (by decide) (w.heap.size+1+1) b _ xs (by omega) W1 (by omega) (by omega) au aq) (fun h k=>h.trans k)
  (fun W l o o' hl h ho hw=>?kb) (Below.refl _ _) (fun _=>rfl)
  (U1 w W1 (.slice a xs.length cap) xs) (fun _ _ _=>False)
  (fun s A B row hs hg hr=>?own)
  (fun _ _ _ _ _ hs _ _=>hs)
  ⟨.inl ⟨Nat.le_refl _,.slice none 0 0,f2,World.ownsRowF_nil _ _ _ _,by simp[Value.ownBlock]⟩,Below.refl _ _,f3⟩
  (fun x=>{ tmps:=#[.slice a xs.length cap,.pointer (some ⟨w.heap.size,0,none⟩),.string ⟨#[]⟩,.int .i64 0,.pointer (some ⟨w.heap.size+1,0,none⟩),.int .i64 (x.1:Int),.int .u64 (lim xs x.1),undef,.slice a xs.length cap,
    .int .i64 xs.length,.bool false,.slice a xs.length cap,.func (.func 194) #[] #[.pointer (some ⟨w.heap.size+1+1,0,none⟩)],.int .i64 (x.1:Int),.int .u64 (lim xs x.1),
    undef,undef,undef,undef,undef,undef,undef,undef,undef,undef,undef,undef,undef,undef,undef,undef,undef],defers:=[] })
  ?assign ?body ?done ?stop
 case kb =>
  have h1:=(Array.getElem?_eq_some_iff.1 h).1;exact⟨World.putObj_heap_other (by omega),World.putObj_heap_other (by omega)⟩
 case own =>
  obtain⟨s1,s2,s3⟩:=hs;have az:=fun r e=>(hr r e).2;exact⟨J7 s1 hg az,s2.grown hg (by have:=s2.size;omega) (fun k e=>by have:=(hr k e).1;omega),Dw s3 hg az⟩
 case assign =>
  intro l x W K hK
  gi_wp2
  exact hK
 case body =>
  rintro l pre x W ⟨s1,s2,s3⟩ aa;have ax:=InR.lim hx.out.1 x.1;have h9:=VC ax;have aP:=x.2;have aI:Env W:=hE.out.below (f5.trans (s2.mono (by omega)));have ah:=LD (lim xs x.1) (by omega) W aI.tab;have aE:=(s2.cell (p:=⟨w.heap.size,0,none⟩) (by simp)).trans ar;have ai:=Ny hx.out.1 pre;have aA:Fl xs x=if x.1<xs.length-1 then K0 (lim xs x.1) else Lib.decDigits (lim xs x.1):=rfl
  have aJ:K0 (lim xs x.1)=List.replicate (9-(Lib.decDigits (lim xs x.1)).length) 48++Lib.decDigits (lim xs x.1):=rfl;have HP:=zh aA;have HPD:=zh aJ;replace s1:=zh s1;replace s2:=zh s2;replace s3:=zh s3;replace ai:=zh ai;have F4:=zh f4;clear aA aJ aq f1 f2 f3 au ar f4 aI;generalize al:Lib.decDigits (lim xs x.1)=dl at h9 ah HP HPD;clear al;have an:=s2.out.size;have aO:w.heap.size+2<W.heap.size:=by have:=F4.out;omega
  replace an:=zh an
  by_cases hq:x.1<xs.length-1
  · obtain ⟨c,hc⟩:∃c:Nat,(9:Int)-(dl.length:Int)=(c:Int):=⟨9-dl.length,by omega⟩;have HC:Hid (c=9-dl.length):=by unfold Hid;omega
    have aL:(x.1:Int)<(xs.length:Int)-1:=by omega
    gi_wp2_with (first
     | (refine⟨trivial,?_⟩;gi_at_call 170;refine(CallsIn.inRound l (callsIn_wide.2 ah)).mono ?_;rintro e w2 ⟨rfl,d⟩;have aG:=(d.cell (p:=⟨w.heap.size,0,none⟩) (by simp;omega)).trans aE;replace d:=zh d))
    refine⟨trivial,?_⟩;refine(CallsIn.inRound l (callsIn_wide.2 (Tryz.strings_Repeat ⟨#[48]⟩ c w2 (by omega) (by simp[ByteArray.size];omega)))).mono ?_;rintro e w3 ⟨rfl,ad⟩;have ae:Below W.heap.size W w3:=d.out.trans (ad.mono d.out.size);have aS:=ae.size;have af:Lib.repeatL (⟨#[48]⟩:ByteArray).data.toList c=List.replicate c 48:=Qk c;rw[af];clear af ad d;have av:=DL (w.heap.size+1) (w.heap.size+1) (Lib.byteCells (txt xs pre)) ⟨(List.replicate c 48).toArray⟩ w3 (Fm s1.out ae) (by rw[Lib.byteCells_length];have:=ai.out;simp[ByteArray.size];omega) (by omega);generalize af:List.replicate c (48:UInt8)=rl at av ⊢;have HRL:=zh af;replace ae:=zh ae;clear af
    gi_wp2_with (first
     | (refine⟨trivial,?_⟩;gi_at_call 171;refine(CallsIn.inRound l (callsIn_wide.2 av)).mono ?_;rintro e w4 ⟨rfl,aK,aD,aM⟩;clear av))
    refine⟨trivial,?_⟩;have aN:=aD.size;refine(CallsIn.inRound l (callsIn_wide.2 (DL (w.heap.size+1) (w.heap.size+1) _ ⟨dl.toArray⟩ w4 aK (by rw[List.length_append,Lib.byteCells_length,Lib.strCells_length];have:=ai.out;have:=HRL.out;subst this;simp[ByteArray.size];omega) (by omega)))).mono ?_;rintro e w5 ⟨rfl,ak,ao,aw⟩
    gi_wp2
    refine Hr s1.out s2.out s3.out (bs:=rl++dl) ?_ (by have:=ae.out.mono (show w.heap.size+1<=W.heap.size by omega);exact(this.trans aD).trans ao) (((E4 ae.out).trans aM).trans aw) (by omega) ?_
    · rw[En,En]at ak;rw[Lib.byteCells_append,Lib.byteCells_append,<-List.append_assoc];exact ak
    · rw[HP.out,if_pos hq,HPD.out,<-HRL.out,HC.out]
  · have aL:¬(x.1:Int)<(xs.length:Int)-1:=by omega
    gi_wp2_with (first
     | (refine⟨trivial,?_⟩;gi_at_call 170;refine(CallsIn.inRound l (callsIn_wide.2 ah)).mono ?_;rintro e w2 ⟨rfl,d⟩;have aG:=(d.cell (p:=⟨w.heap.size,0,none⟩) (by simp;omega)).trans aE;replace d:=zh d))
    refine⟨trivial,?_⟩;have aQ:=d.out.size;refine(CallsIn.inRound l (callsIn_wide.2 (DL (w.heap.size+1) (w.heap.size+1) (Lib.byteCells (txt xs pre)) ⟨dl.toArray⟩ w2 (Fm s1.out d.out) (by rw[Lib.byteCells_length];have:=ai.out;simp[ByteArray.size];omega) (by omega)))).mono ?_;rintro e w5 ⟨rfl,ak,ao,aw⟩
    gi_wp2
    refine Hr s1.out s2.out s3.out (bs:=dl) ?_ (by have:=d.out.mono (show w.heap.size+1<=W.heap.size by omega);exact this.trans ao) ((E4 d.out).trans aw) (by omega) ?_
    · rw[En]at ak;rw[Lib.byteCells_append];exact ak
    · rw[HP.out,if_neg hq]
 case done =>
  rintro D zs W hD rfl ⟨s1,s2,s3⟩ hK;have aC:=Tf hx.out (List.length_pos_iff.1 h0)
  have aj:(txt xs (CA xs.length xs.length)).length<=1800:=by
   have:=Ny (xs:=xs) hx.out.1 (CA xs.length xs.length);rw[GA _ _ (Nat.le_refl _)]at this;omega
  rw[aC]at s1 aj;have aH:=AK (lv xs);generalize al:Lib.decDigits (lv xs)=dl at s1 aj aH;have HDL:=zh al;clear al;have an:=s2.size;have hS:=s1;have aF:Below w.heap.size w W:=f5.trans (s2.mono (by omega));replace s1:=zh s1;replace s2:=zh s2;replace s3:=zh s3;have HK:=zh hK;have HBW:=zh aF;have F4:=zh f4;clear aq f1 f2 f3 au ar f4 hK aF aC;have aa:=Tryz.Builder_Len_f (w.heap.size+1) (w.heap.size+1) (Lib.byteCells dl) W hS;rw[Lib.byteCells_length]at aa;clear hS
  by_cases h300:300<dl.length
  · have ag:Dd dl=.tuple #[.string ⟨#[]⟩,.int .i64 2]:=by unfold Dd;rw[if_pos h300]
    have HLV:=zh ag;clear ag
    gi_wp2_with (first
     | (refine⟨trivial,?_⟩;gi_at_call 173;refine(callsIn_wide.2 aa).mono ?_;rintro e w2 ⟨rfl,rfl⟩))
    refine⟨by simp,.inl ⟨_,_,rfl,run_takeDeferred HK.out,?_⟩⟩;refine⟨.tuple #[.string ⟨#[]⟩,.int .i64 2],by simp[results,Tryz.results134,go_sem],by rw[HDL.out,HLV.out],?_⟩;exact HBW.out.grown (grownBy_putObj' _ D (.deferred none)) HBW.out.size (fun k e=>by cases e;have:=F4.out;omega)
  · have ag:Dd dl=.tuple #[.string ⟨dl.toArray⟩,.int .i64 0]:=by unfold Dd;rw[if_neg h300]
    have HLV:=zh ag;clear ag
    gi_wp2_with (first
     | (refine⟨trivial,?_⟩;gi_at_call 173;refine(callsIn_wide.2 aa).mono ?_;rintro e w2 ⟨rfl,rfl⟩))
    have am:=Any.Builder_String_k Tryz.lays169 Tryz.Builder_Extra_169 (w.heap.size+1) (w.heap.size+1) dl w2 s1.out aH;refine⟨trivial,?_⟩;refine(callsIn_wide.2 am).mono ?_;rintro e w3 ⟨rfl,_,ad,ay⟩;have aB:w3.heap[D]? = some (.deferred (some [])):=ay D _ HK.out (by intro e;injection e with e;have:=F4.out;omega) (by intro c f e;cases e);have HK3:=zh aB;replace ad:=zh ad;clear aa am aB ay
    gi_wp2
    refine⟨by simp,.inl ⟨_,_,rfl,run_takeDeferred HK3.out,?_⟩⟩;refine⟨.tuple #[.string ⟨dl.toArray⟩,.int .i64 0],by simp[results,Tryz.results134,go_sem],by rw[HDL.out,HLV.out],?_⟩;exact(HBW.out.trans (ad.out.mono (by omega))).grown (grownBy_putObj' _ D (.deferred none)) (by have:=ad.out.size;have:=HBW.out.size;omega) (fun k e=>by cases e;have:=F4.out;omega)
 case stop =>
  rintro D c pre W _ _ h _;exact h.elim
theorem DX (w:World) (v:Value) (n:Nat) (hn:Num w v n) (h:BQ n) (hE:Env w) :
 Calls Tryz.prog 134 #[v] w (K4 (Lib.decDigits n) w):=by
 obtain⟨xs,hx,rfl,d⟩:=hn;have hl:=hx.len_le (k:=200) h
 obtain ⟨b,hb,aa⟩:∃b,b<w.heap.size/\SlAt w b v xs:=by
  rcases d.shape with⟨rfl,rfl⟩ | ⟨b,off,cap,rfl,hb,_,hc⟩
  · exact⟨0,hE.pos,.inl ⟨rfl,0,rfl⟩⟩
  · exact⟨b,hb,.inr ⟨off,cap,rfl,hc⟩⟩
 obtain⟨a,cap,rfl,_⟩:=d.addr
 by_cases h0:xs=[]
 · subst h0;refine(Om w a cap).mono ?_;rintro e w' ⟨rfl,ad⟩;refine⟨?_,ad⟩;rw[lv,Lib.decDigits_one (by omega)];rfl
 · exact On w a cap xs hl hx (List.length_pos_iff.2 h0) b hb aa hE
end Nt
end
section
open Go.RowKit
namespace Nt
theorem K7:(Tryz.prog.info? 159).map (fun i=>(i.zero,i.size,i.bytes))=some (some (.int .u64 0),1,8):=by kernel_rfl
theorem Eo (n:Nat) (hn:n<=1000000) (w:World) :
 (Instr.makeSlice 140 (.int .i64 (n:Int)) (.int .i64 (n:Int))).run Tryz.prog w =
   .ok (.slice (some ⟨w.heap.size,0,none⟩) n n) (w.alloc (.cells (madeCells #[.int .u64 0] n) 159)) :=
 run_make_row' 140 159 (.int .u64 0) 8 Tryz.underlying140 K7 rfl .i64 .i64 n (by omega) (by omega) w
theorem Ql {X Y Z B x y br z br':Nat} (h:Z+Y=X+br*B) (e:z+(y+br)=x+br'*1000000000) :
 (Z+B*z)+(Y+B*y)=(X+B*x)+br'*(B*1000000000):=by
 have e2:B*z+(B*y+B*br)=B*x+B*(br'*1000000000):=by
  rw[<-Nat.mul_add,<-Nat.mul_add,<-Nat.mul_add,e]
 have e3:br*B=B*br:=Nat.mul_comm _ _;have e4:B*(br'*1000000000)=br'*(B*1000000000):=by rw[<-Nat.mul_assoc,Nat.mul_comm B br',Nat.mul_assoc]
 omega
def RelSub (B:Nat) (w:World) (xs ys:List Nat) (g:Nat) (k br:Nat) (wr:World):Prop :=
 ∃zs,zs.length=xs.length/\InR zs/\Row 159 wr g zs/\br<=1/\lo zs k+lo ys k=lo xs k+br*1000000000^k/\Below B w wr
theorem RelSub.step {B:Nat} {w wr:World} {xs ys:List Nat} {g k br:Nat} (h:RelSub B w xs ys g k br wr) (hB:B<=g) (hk:k<xs.length) {z br':Nat}
 (hz:z<1000000000) (a:br'<=1) (e:z+(lim ys k+br)=lim xs k+br'*1000000000) :
 RelSub B w xs ys g (k+1) br' (wr.setCell ⟨g,k,none⟩ (.int .u64 (z:Int))):=by
 obtain⟨zs,h1,h2,h3,h4,h5,h6⟩:=h;refine⟨zs.set k z,by simpa using h1,h2.set k z hz,h3.set k z,a,?_,h6.setCell hB _⟩;rw[Ch,Ch,Ch,UI,Hd _ _ _ (by omega),Nat.pow_succ];exact Ql h5 e
theorem RelSub.step' {B:Nat} {w wr:World} {xs ys:List Nat} {g k br:Nat} (h:RelSub B w xs ys g k br wr) (hB:B<=g) (hk:k<xs.length) {z br':Nat} {y:Int}
 (hz:z<1000000000) (a:br'<=1) (e:z+(lim ys k+br)=lim xs k+br'*1000000000) (hy:y=(z:Int)) :
 RelSub B w xs ys g (k+1) br' (wr.setCell ⟨g,k,none⟩ (.int .u64 y)):=by
 subst hy;exact h.step hB hk hz a e
def Cu (B:Nat) (w:World) (n:Nat) (e:Ending) (w':World):Prop :=
 ∃v,e=.returned v/\Num w' v n/\From B v/\Below B w w'
theorem Qm (w:World) (a:Option Addr) (cap:Nat) (xs:List Nat) (c:Option Addr) (cap':Nat) (ys:List Nat) (hl:xs.length<=100000) (au:ys.length<=xs.length)
 (hx:InR xs) (hy:InR ys) (av:lv ys<=lv xs)
 (ha:xs≠[]->∃b off,a=some ⟨b,off,none⟩/\b<w.heap.size/\∀i,i<xs.length->w.cell? ⟨b,off+i,none⟩=some (.int .u64 (lim xs i)))
 (hc:ys≠[]->∃b off,c=some ⟨b,off,none⟩/\b<w.heap.size/\∀i,i<ys.length->w.cell? ⟨b,off+i,none⟩=some (.int .u64 (lim ys i))) :
 Calls Tryz.prog 169 #[.slice a xs.length cap,.slice c ys.length cap'] w (Cu w.heap.size w (lv xs-lv ys)):=by
 have ag:=Eo xs.length (by omega);go_enter Tryz.func169,Tryz.ntmps169;go_wp2
 go_loopw [6,15] (fun br i wr=>∃k b:Nat,k<=xs.length/\i=.int .i64 k/\br=.int .u64 b/\RelSub w.heap.size w xs ys w.heap.size k b wr)
  (fun _ i _=>xs.length-(intOf i).toNat)
 case atStart=>exact⟨0,0,Nat.zero_le _,rfl,rfl,List.replicate xs.length 0,by simp,InR.zeros _,Row.made0 _ _ _,Nat.zero_le _,by simp[DB],(Below.refl _ _).alloc (Nat.le_refl _) _⟩
 case round =>
  obtain⟨k,b,hk,rfl,rfl,hrel⟩:=hrel
  by_cases hkn:k<xs.length
  · obtain ⟨bx,ox,aj,ak,af⟩:=ha (by intro e;simp[e]at hkn);obtain⟨zs,z1,z2,z3,z4,z5,z6⟩:=id hrel;have am:=(z6.cell (p:=⟨bx,ox+k,none⟩) ak).trans (af k hkn);have ar:=hx.lim k;have al:=hy.lim k;have ao:=z3.frozen k;have aq:=z3.cell (i:=k) (by omega);subst aj;clear af ha z2 z3 z5 hx hy ag;replace z6:=zh z6
    by_cases hky:k<ys.length
    · obtain ⟨b2,oy,ai,ah,ae⟩:=hc (by intro e;simp[e]at hky);subst ai;have an:=(Hid.out z6).cell (p:=⟨b2,oy+k,none⟩) ah |>.trans (ae k hky)
      have HR:=zh hrel;clear hrel hc ae z6
      by_cases aa:lim xs k<b+lim ys k
      · go_wp2;exact⟨⟨k+1,1,by omega,by go_num,rfl,HR.out.step' (Nat.le_refl _) hkn (z:=lim xs k+1000000000-(b+lim ys k)) (by omega) (by omega) (by omega) (by omega)⟩,by simp only[intOf];omega⟩
      · go_wp2;exact⟨⟨k+1,0,by omega,by go_num,rfl,HR.out.step' (Nat.le_refl _) hkn (z:=lim xs k-(b+lim ys k)) (by omega) (by omega) (by omega) (by omega)⟩,by simp only[intOf];omega⟩
    · clear hc z6;have d:=Gk ys k (by omega);have HR:=zh hrel;have HY:=zh d;clear hrel al d
      by_cases aa:lim xs k<b
      · go_wp2;have:=HY.out;exact⟨⟨k+1,1,by omega,by go_num,rfl,HR.out.step' (Nat.le_refl _) hkn (z:=lim xs k+1000000000-b) (by omega) (by omega) (by omega) (by omega)⟩,by simp only[intOf];omega⟩
      · go_wp2;have:=HY.out;exact⟨⟨k+1,0,by omega,by go_num,rfl,HR.out.step' (Nat.le_refl _) hkn (z:=lim xs k-b) (by omega) (by omega) (by omega) (by omega)⟩,by simp only[intOf];omega⟩
  · obtain rfl:k=xs.length:=by omega
    obtain⟨zs,z1,z2,z3,z4,z5,z6⟩:=id hrel;have Z1:=zh z1;have Z5:=zh z5;have ad:=z3.sl;rw[z1]at ad;clear z1 z5 hrel ha hc ag
    go_wp2_with (go_at_call 164;refine(Dv _ _ _ (by have:=Z1.out;omega) ad).mono ?_;rintro e w' ⟨v,k,rfl,ht,hs,hf,rfl⟩)
    go_ret;have e5:=Z5.out;have e1:=Z1.out;rw[DN _ _ (by omega),DN _ _ (by omega),DN _ _ (by omega)]at e5;have aa:=Ky z2;rw[e1]at aa
    have hb:b=0:=by
     rcases Nat.eq_zero_or_pos b with h | h
     · exact h
     · have:1*1000000000^xs.length<=b*1000000000^xs.length:=Nat.mul_le_mul_right _ h;omega
    rw[hb,Nat.zero_mul]at e5;exact⟨v,rfl,⟨zs.take k,ht.canon z2,by rw[ht.lv];omega,hs⟩,hf _ (Nat.le_refl _),z6⟩
theorem Nz (w:World) (v u:Value) (n m:Nat) (hn:Num w v n) (hm:Num w u m) (d:m<=n) (hb:BQ n) :
 Calls Tryz.prog 169 #[v,u] w (Cu w.heap.size w (n-m)):=by
 obtain⟨xs,hx,rfl,aa⟩:=hn;obtain⟨ys,hy,rfl,h⟩:=hm;have hl:=hx.len_le (k:=200) hb;have ad:=hy.len_mono hx d;obtain⟨a,cap,rfl,ha⟩:=aa.addr;obtain⟨c,cap',rfl,hc⟩:=h.addr;exact Qm w a cap xs c cap' ys (by omega) ad hx.1 hy.1 d ha hc
end Nt
end
section
open Go.RowKit
namespace Nt
def Qn (B:Nat) (w:World) (l:List UInt8) (v:Value) (i:Value) (wr:World):Prop :=
 ∃(k e:Nat) (zs:List Nat) (j:Int),i=.int .i64 j/\e=j.toNat/\j+9*k=l.length/\k<=l.length/\-9<j/\InR zs/\Own 159 B wr v k zs/\A5 (l.take e)*1000000000^k+lv zs=A5 l/\Below B w wr
theorem Own.from_block {t:TypeId} {B:Nat} {w:World} {v:Value} {n:Nat} {xs:List Nat} (h:Own t B w v n xs) (b:Nat) (e:v.ownBlock=some b):B<=b:=by
 have:=h.from
 cases v<;>simp[Value.ownBlock]at e
 rename_i a l c
 cases a with
 | none=>simp at e
 | some ad=>simp at e;subst e;exact this
theorem Oo (s:ByteArray) (w:World) (hs:s.size<=1000) (hd:∀c∈s.data.toList,AE c) :
 Calls Tryz.prog 132 #[.string s] w (Cu w.heap.size w (A5 s.data.toList)):=by
 obtain⟨i0,hi,aA,ar,ax⟩:=info_parts K7;have d:s.data.toList.length=s.size:=by simp
 have HSL:=zh d;have HD:=zh hd;clear d hd;go_enter Tryz.func132,Tryz.ntmps132;go_wp2
 go_loopw [3,4] (fun v i wr=>Qn w.heap.size w s.data.toList v i wr) (fun _ i _=>(intOf i).toNat)
 case atStart =>
  have:=HSL.out;exact⟨0,s.size,[],s.size,rfl,by simp,by omega,by omega,by omega,fun x hx=>absurd hx (by simp),World.ownsRow_nil _ _ _ _,by rw[List.take_of_length_le (by omega)];simp[lv],Below.refl _ _⟩
 case round =>
  obtain⟨k,e,zs,j,rfl,he,hk,az,hj,z1,z2,z3,z4⟩:=hrel;have d:=HSL.out;rw[d]at hk az;clear d;have ay:=z4.size
  by_cases hp:0<j
  · obtain ⟨q,hq⟩:∃q:Nat,j=(q:Int):=⟨j.toNat,by omega⟩;subst hq;have am:e=q:=by omega
    subst am;have ao:e<=s.size:=by omega
    obtain⟨a,ha⟩:∃a,a=e-9:=⟨_,rfl⟩;have an:a<=e:=by omega
    have al:=J5 (s.extract a e) (by simp;omega) (A5 ((s.data.toList.take e).drop a)) ?pc wr
    case pc =>
     have e1:(s.extract a e).data.toList=(s.data.toList.take e).drop a:=by rw[Lib.extract_data,List.drop_take]
     rw[e1];refine Kz (fun c hc=>HD.out c (List.mem_of_mem_take (List.mem_of_mem_drop hc))) ?_ ?_
     · intro h;have:=congrArg List.length h;simp at this;have:=HSL.out;simp at this;omega
     · simp;omega
    have au:A5 ((s.data.toList.take e).drop a)<1000000000:=by
     have h1:=DC (l:=(s.data.toList.take e).drop a) (fun c hc=>HD.out c (List.mem_of_mem_take (List.mem_of_mem_drop hc)));have h2:((s.data.toList.take e).drop a).length<=9:=by simp;omega
     exact Nat.lt_of_lt_of_le h1 (Nat.le_trans (Nat.pow_le_pow_right (by omega) h2) (by decide))
    have aa:A5 (s.data.toList.take a)*1000000000^(k+1)+(lv zs+1000000000^k*A5 ((s.data.toList.take e).drop a))=A5 s.data.toList:=by
     have af:s.data.toList.take e=s.data.toList.take a++(s.data.toList.take e).drop a:=by
      have h1:=(List.take_append_drop a (s.data.toList.take e)).symm;rw[List.take_take,Nat.min_eq_left an]at h1;exact h1
     rw[<-z3]
     conv=>rhs;rw[af,Br]
     have ai:((s.data.toList.take e).drop a).length=e-a:=by
      rw[List.length_drop,List.length_take,HSL.out,Nat.min_eq_left ao]
     rw[ai]
     rcases Nat.eq_zero_or_pos a with h0 | h0
     · rw[h0,List.take_zero,E9,Nat.zero_mul,Nat.zero_mul,Nat.zero_add,Nat.zero_add,Nat.mul_comm (1000000000^k)];omega
     · have h9:e-a=9:=by omega
       rw[h9,Nat.pow_succ,Nat.add_mul,Nat.mul_comm (1000000000^k) (A5 _)]
       have:A5 (s.data.toList.take a)*(1000000000^k*1000000000)=A5 (s.data.toList.take a)*10^9*1000000000^k:=by
        rw[Nat.mul_comm (1000000000^k),Nat.mul_assoc,show (10:Nat)^9=1000000000 from rfl]
       omega
    generalize A5 ((s.data.toList.take e).drop a)=x at al au aa;replace z1:=zh z1;replace z3:=zh z3;replace z4:=zh z4;replace aa:=zh aa;replace he:=zh he;replace hk:=zh hk;have aD:max (0:Int) ((e:Int)-9)=(a:Int):=by omega
    have HA:=zh ha;clear ha
    go_wp2_with (first
     | (go_at_call 163;refine al.mono ?_;rintro e w1 ⟨rfl,ae⟩;replace ae:=zh ae)
     | (at_builtin;refine wpList_append_own _ rfl _ _ 140 rfl w.heap.size 159 i0 (.int .u64 0) 1 8 Tryz.underlying140 hi aA ar ax rfl (by decide) u3 k (Co zs) rfl ((z2.below ae.out).alloc _) ⟨w1.heap.size,0,none⟩ 1 1 [.int .u64 (x:Int)] rfl rfl (Cj _ _ _) (BP _ _) (by unfold maxLen;omega) (by omega) (by have:=ae.out.size;simp;omega) ?_;intro v2 w2 ad ak _))
    have ag:=ae.out;have aB:=ag.size;rw[Fy]at ad;refine⟨⟨k+1,a,zs++[x],(e:Int)-9,rfl,by have:=HA.out;omega,by have:=hk.out;have:=HSL.out;omega,?_,by omega,?_,ad,?_,((z4.out.trans (ag.mono ay)).alloc (by omega) _).grown ak (by simp;omega) (fun b e=>z2.from_block b e)⟩,by simp only[intOf];omega⟩
    · have:=hk.out;have:=HSL.out;omega
    · intro y hy
      rcases List.mem_append.1 hy with h | h
      · exact z1.out y h
      · simp at h;omega
    · rw[Dk,z2.len];have:=aa.out;simp only[lv,Nat.mul_zero,Nat.add_zero];omega
  · obtain rfl:e=0:=by omega
    have d:=z2.sl;have ah:=z2.len;have aq:=z2.from;replace z3:=zh z3;replace ah:=zh ah;replace z4:=zh z4;have aC:¬(0:Int)<j:=hp;have ht:=Dv wr u3 zs (by have:=ah.out;omega) d;obtain⟨a3,l3,c3,e3⟩:∃a l c,u3=.slice a l c:=by obtain⟨a,c,h,_⟩:=d;exact⟨a,_,c,h⟩
    subst e3;clear z2 d he hk
    go_wp2_with (go_at_call 164;refine ht.mono ?_;rintro e w' ⟨v,k',rfl,aj,av,aw,rfl⟩)
    go_ret;have:=z3.out;rw[List.take_zero,E9,Nat.zero_mul,Nat.zero_add]at this;exact⟨v,rfl,⟨zs.take k',aj.canon z1,by rw[aj.lv,this],av⟩,aw _ aq,z4.out⟩
end Nt
end
section
open Go.RowKit
namespace Nt
def Qo (B:Nat) (w:World) (xs ys:List Nat) (v:Value) (k c:Nat) (wr:World):Prop :=
 ∃zs,InR zs/\Own 159 B wr v k zs/\c<=1/\lv zs+c*1000000000^k=lo xs k+lo ys k/\Below B w wr
theorem Qp {Z X Y P c c' x y:Nat} (h:Z+c*P=X+Y) (hc:c'=(x+c+y)/1000000000) :
 Z+P*((x+c+y)%1000000000)+c'*(P*1000000000)=X+P*x+(Y+P*y):=by
 have e1:P*(x+c+y)=P*x+P*c+P*y:=by rw[Nat.mul_add,Nat.mul_add]
 have e2:P*(x+c+y)=P*((x+c+y)%1000000000)+P*(1000000000*((x+c+y)/1000000000)):=by rw[<-Nat.mul_add,Nat.mod_add_div]
 have e3:c'*(P*1000000000)=P*(1000000000*((x+c+y)/1000000000)):=by rw[hc,Nat.mul_comm,Nat.mul_assoc]
 have e4:c*P=P*c:=Nat.mul_comm _ _;omega
theorem He {B:Nat} {w wr w':World} {xs ys zs:List Nat} {v v':Value} {k c:Nat} {x:Int} (h1:InR zs) (h2:Own 159 B wr v k zs) (h3:c<=1)
 (h4:lv zs+c*1000000000^k=lo xs k+lo ys k) (h5:Below B w wr) (hx:InR xs) (hy:InR ys) (hB:B<=wr.heap.size) {o:Obj}
 (a:w'.ownsRow B 159 1 v' (k+1) (Co zs++[Value.int .u64 x])) (hg:(wr.alloc o).grownBy w' v.ownBlock) (d:∀b,v.ownBlock=some b->B<=b)
 (aa:x=(((lim xs k+c+lim ys k)%1000000000:Nat):Int)) :
 Qo B w xs ys v' (k+1) ((lim xs k+c+lim ys k)/1000000000) w':=by
 have b1:=hx.lim k;have b2:=hy.lim k;subst aa;rw[Fy]at a;have hl:=h2.len;refine⟨zs++[(lim xs k+c+lim ys k)%1000000000],?_,a,by omega,?_,(h5.alloc hB o).grown hg (by simp;omega) (fun b e=>d b e)⟩
 · intro y hy
   rcases List.mem_append.1 hy with h | h
   · exact h1 y h
   · simp at h;subst h;exact Nat.mod_lt _ (by omega)
 · rw[Dk,hl,Ch,Ch,Nat.pow_succ];simp only[lv,Nat.mul_zero,Nat.add_zero];exact Qp h4 rfl
theorem II (a b c:Nat):((a:Int)+b+c)%1000000000=(((a+b+c)%1000000000:Nat):Int):=by
 rw[Int.natCast_emod,Int.natCast_add,Int.natCast_add];rfl
theorem IJ (a b c:Nat):((a:Int)+b+c)/1000000000=(((a+b+c)/1000000000:Nat):Int):=by
 rw[Int.natCast_ediv,Int.natCast_add,Int.natCast_add];rfl
theorem IK (a b:Nat):((a:Int)+b)%1000000000=(((a+b)%1000000000:Nat):Int):=by
 rw[Int.natCast_emod,Int.natCast_add];rfl
theorem IL (a b:Nat):((a:Int)+b)/1000000000=(((a+b)/1000000000:Nat):Int):=by
 rw[Int.natCast_ediv,Int.natCast_add];rfl
theorem N0 {B:Nat} {w wr w':World} {xs ys zs:List Nat} {v v':Value} {c:Nat} {x:Int} (h1:InR zs) (h2:Own 159 B wr v xs.length zs) (h3:c<=1)
 (h4:lv zs+c*1000000000^xs.length=lo xs xs.length+lo ys xs.length) (h5:Below B w wr) (aa:ys.length<=xs.length) (hB:B<=wr.heap.size) {o:Obj}
 (a:w'.ownsRow B 159 1 v' (xs.length+1) (Co zs++[Value.int .u64 x])) (hg:(wr.alloc o).grownBy w' v.ownBlock) (d:∀b,v.ownBlock=some b->B<=b) (ad:x=(c:Int)) :
 ∃us,InR us/\Sl w' v' us/\us.length=xs.length+1/\lv us=lv xs+lv ys/\Below B w w':=by
 subst ad;rw[Fy]at a;have hl:=h2.len;have ho:Own 159 B w' v' (xs.length+1) (zs++[c]):=a;refine⟨zs++[c],?_,ho.sl,ho.len,?_,(h5.alloc hB o).grown hg (by simp;omega) (fun b e=>d b e)⟩
 · intro y hy
   rcases List.mem_append.1 hy with h | h
   · exact h1 y h
   · simp at h;omega
 · rw[DN _ _ (Nat.le_refl _),DN _ _ aa]at h4;rw[Dk,hl];simp only[lv,Nat.mul_zero,Nat.add_zero];have:c*1000000000^xs.length=1000000000^xs.length*c:=Nat.mul_comm _ _;omega
def K8 (B:Nat) (w:World) (xs ys:List Nat) (g cap:Nat) (out carry i:Value) (wr:World):Prop :=
 ∃k c:Nat,k<=xs.length/\i=.int .i64 k/\carry=.int .u64 c/\out=.slice (some ⟨g,0,none⟩) k cap/\Qo B w xs ys out k c wr
theorem Qq (w:World) (a:Option Addr) (cap:Nat) (xs:List Nat) (c:Option Addr) (cap':Nat) (ys:List Nat) (hl:xs.length<=1000) (aw:ys.length<=xs.length)
 (hx:InR xs) (hy:InR ys)
 (ha:xs≠[]->∃b off,a=some ⟨b,off,none⟩/\b<w.heap.size/\∀i,i<xs.length->w.cell? ⟨b,off+i,none⟩=some (.int .u64 (lim xs i)))
 (hc:ys≠[]->∃b off,c=some ⟨b,off,none⟩/\b<w.heap.size/\∀i,i<ys.length->w.cell? ⟨b,off+i,none⟩=some (.int .u64 (lim ys i))) :
 Calls Tryz.prog 175 #[.slice a xs.length cap,.slice c ys.length cap'] w (Cu w.heap.size w (lv xs+lv ys)):=by
 obtain⟨i0,hi,an,af,aq⟩:=info_parts K7;have ax:¬xs.length<ys.length:=by omega
 go_enter Tryz.func175,Tryz.ntmps175
 go_wp2_with (at_make;refine wpList_make_own _ rfl _ _ 140 rfl w.heap.size 159 i0 (.int .u64 0) 1 Tryz.underlying140 hi an af _ _ _ (xs.length+1) rfl rfl (by omega) (by rw[aq];omega) (by unfold maxLen;omega) (Nat.le_refl _) ?_;intro w1 ad ae)
 go_loopw [5,6,22] (fun out carry i wr=>K8 w.heap.size w xs ys w.heap.size (xs.length+1) out carry i wr)
  (fun _ _ i _=>xs.length-(intOf i).toNat)
 case atStart=>exact⟨0,0,Nat.zero_le _,rfl,rfl,rfl,[],(fun x hx=>absurd hx (by simp)),ad,Nat.zero_le _,by simp[DB,lv],(Below.refl _ _).grown ae (Nat.le_refl _) (fun k h=>by cases h)⟩
 case round =>
  obtain⟨k,b,hk,rfl,rfl,rfl,zs,z1,z2,z3,z4,z5⟩:=hrel;have ag:=z5.size
  by_cases hkn:k<xs.length
  · obtain ⟨bx,ox,al,am,ai⟩:=ha (by intro e;simp[e]at hkn);have ar:=(z5.cell (p:=⟨bx,ox+k,none⟩) am).trans (ai k hkn);have av:=hx.lim k;have ao:=hy.lim k;subst al;clear ai ha ad ae
    by_cases hky:k<ys.length
    · obtain⟨b2,oy,ak,aj,ah⟩:=hc (by intro e;simp[e]at hky);subst ak;have au:=z5.cell (p:=⟨b2,oy+k,none⟩) aj |>.trans (ah k hky)
      replace z1:=zh z1;replace z4:=zh z4;replace z5:=zh z5;replace hx:=zh hx;replace hy:=zh hy;have HO:=z2;clear hc ah
      go_wp2_with (at_builtin;refine wpList_append_fits _ rfl _ _ 140 rfl w.heap.size 159 i0 1 Tryz.underlying140 hi af w.heap.size k (xs.length+1) (Co zs) rfl (HO.alloc _) ⟨wr.heap.size,0,none⟩ 1 1 [.int .u64 (((lim xs k:Int)+b+lim ys k)%1000000000)] rfl rfl (Cj _ _ _) (BP _ _) (by omega) ?_;intro w2 d aa)
      refine⟨⟨k+1,(lim xs k+b+lim ys k)/1000000000,by omega,by go_num,congrArg (Value.int .u64) (IJ _ _ _),rfl,?_⟩,by simp only[intOf];omega⟩;exact He z1.out z2 z3 z4.out z5.out hx.out hy.out ag d aa (fun b e=>by cases e;exact Nat.le_refl _) (II _ _ _)
    · have HY0:=zh (Gk ys k (by omega));replace z1:=zh z1;replace z4:=zh z4;replace z5:=zh z5;replace hx:=zh hx;replace hy:=zh hy;have HO:=z2;clear hc ao
      go_wp2_with (at_builtin;refine wpList_append_fits _ rfl _ _ 140 rfl w.heap.size 159 i0 1 Tryz.underlying140 hi af w.heap.size k (xs.length+1) (Co zs) rfl (HO.alloc _) ⟨wr.heap.size,0,none⟩ 1 1 [.int .u64 (((lim xs k:Int)+b)%1000000000)] rfl rfl (Cj _ _ _) (BP _ _) (by omega) ?_;intro w2 d aa)
      have e0:=HY0.out;refine⟨⟨k+1,(lim xs k+b+lim ys k)/1000000000,by omega,by go_num,?_,rfl,?_⟩,by simp only[intOf];omega⟩
      · rw[e0,Nat.add_zero];exact congrArg (Value.int .u64) (IL _ _)
      · exact He z1.out z2 z3 z4.out z5.out hx.out hy.out ag d aa (fun b e=>by cases e;exact Nat.le_refl _) (by rw[e0,Nat.add_zero];exact IK _ _)
  · obtain rfl:k=xs.length:=by omega
    replace z1:=zh z1;replace z4:=zh z4;replace z5:=zh z5;have HO:=z2;clear ha hc hx hy ad ae
    go_wp2_with (at_builtin;refine wpList_append_fits _ rfl _ _ 140 rfl w.heap.size 159 i0 1 Tryz.underlying140 hi af w.heap.size xs.length (xs.length+1) (Co zs) rfl (HO.alloc _) ⟨wr.heap.size,0,none⟩ 1 1 [.int .u64 (b:Int)] rfl rfl (Cj _ _ _) (BP _ _) (by omega) ?_;intro w2 d aa)
    obtain⟨us,u1,u2,u3,u4,u5⟩:=N0 z1.out z2 z3 z4.out z5.out (by omega) ag d aa (fun b e=>by cases e;exact Nat.le_refl _) rfl;have U3:=zh u3;have U4:=zh u4;clear u3 u4 d aa;refine(Dv _ _ us (by have:=U3.out;omega) u2).mono ?_;rintro e w' ⟨v,k,rfl,ht,hs,hf,rfl⟩;go_wp2;go_ret;exact⟨v,rfl,⟨us.take k,ht.canon u1,by rw[ht.lv,U4.out],hs⟩,hf _ (Nat.le_refl _),u5⟩
theorem I2 (w:World) (a:Option Addr) (cap:Nat) (xs:List Nat) (c:Option Addr) (cap':Nat) (ys:List Nat) (hl:xs.length<=1000) (am:ys.length<xs.length)
 (hx:InR xs) (hy:InR ys)
 (ha:xs≠[]->∃b off,a=some ⟨b,off,none⟩/\b<w.heap.size/\∀i,i<xs.length->w.cell? ⟨b,off+i,none⟩=some (.int .u64 (lim xs i)))
 (hc:ys≠[]->∃b off,c=some ⟨b,off,none⟩/\b<w.heap.size/\∀i,i<ys.length->w.cell? ⟨b,off+i,none⟩=some (.int .u64 (lim ys i))) :
 Calls Tryz.prog 175 #[.slice c ys.length cap',.slice a xs.length cap] w (Cu w.heap.size w (lv xs+lv ys)):=by
 obtain⟨i0,hi,ao,af,ar⟩:=info_parts K7;have ax:ys.length<xs.length:=am;go_enter Tryz.func175,Tryz.ntmps175
 go_wp2_with (at_make;refine wpList_make_own _ rfl _ _ 140 rfl w.heap.size 159 i0 (.int .u64 0) 1 Tryz.underlying140 hi ao af _ _ _ (xs.length+1) rfl rfl (by omega) (by rw[ar];omega) (by unfold maxLen;omega) (Nat.le_refl _) ?_;intro w1 ad ae)
 go_loopw [5,6,22] (fun out carry i wr=>K8 w.heap.size w xs ys w.heap.size (xs.length+1) out carry i wr)
  (fun _ _ i _=>xs.length-(intOf i).toNat)
 case atStart=>exact⟨0,0,Nat.zero_le _,rfl,rfl,rfl,[],(fun x hx=>absurd hx (by simp)),ad,Nat.zero_le _,by simp[DB,lv],(Below.refl _ _).grown ae (Nat.le_refl _) (fun k h=>by cases h)⟩
 case round =>
  obtain⟨k,b,hk,rfl,rfl,rfl,zs,z1,z2,z3,z4,z5⟩:=hrel;have ag:=z5.size
  by_cases hkn:k<xs.length
  · obtain ⟨bx,ox,al,an,ai⟩:=ha (by intro e;simp[e]at hkn);have au:=(z5.cell (p:=⟨bx,ox+k,none⟩) an).trans (ai k hkn);have aw:=hx.lim k;have aq:=hy.lim k;subst al;clear ai ha ad ae
    by_cases hky:k<ys.length
    · obtain⟨b2,oy,ak,aj,ah⟩:=hc (by intro e;simp[e]at hky);subst ak;have av:=z5.cell (p:=⟨b2,oy+k,none⟩) aj |>.trans (ah k hky)
      replace z1:=zh z1;replace z4:=zh z4;replace z5:=zh z5;replace hx:=zh hx;replace hy:=zh hy;have HO:=z2;clear hc ah
      go_wp2_with (at_builtin;refine wpList_append_fits _ rfl _ _ 140 rfl w.heap.size 159 i0 1 Tryz.underlying140 hi af w.heap.size k (xs.length+1) (Co zs) rfl (HO.alloc _) ⟨wr.heap.size,0,none⟩ 1 1 [.int .u64 (((lim xs k:Int)+b+lim ys k)%1000000000)] rfl rfl (Cj _ _ _) (BP _ _) (by omega) ?_;intro w2 d aa)
      refine⟨⟨k+1,(lim xs k+b+lim ys k)/1000000000,by omega,by go_num,congrArg (Value.int .u64) (IJ _ _ _),rfl,?_⟩,by simp only[intOf];omega⟩;exact He z1.out z2 z3 z4.out z5.out hx.out hy.out ag d aa (fun b e=>by cases e;exact Nat.le_refl _) (II _ _ _)
    · have HY0:=zh (Gk ys k (by omega));replace z1:=zh z1;replace z4:=zh z4;replace z5:=zh z5;replace hx:=zh hx;replace hy:=zh hy;have HO:=z2;clear hc aq
      go_wp2_with (at_builtin;refine wpList_append_fits _ rfl _ _ 140 rfl w.heap.size 159 i0 1 Tryz.underlying140 hi af w.heap.size k (xs.length+1) (Co zs) rfl (HO.alloc _) ⟨wr.heap.size,0,none⟩ 1 1 [.int .u64 (((lim xs k:Int)+b)%1000000000)] rfl rfl (Cj _ _ _) (BP _ _) (by omega) ?_;intro w2 d aa)
      have e0:=HY0.out;refine⟨⟨k+1,(lim xs k+b+lim ys k)/1000000000,by omega,by go_num,?_,rfl,?_⟩,by simp only[intOf];omega⟩
      · rw[e0,Nat.add_zero];exact congrArg (Value.int .u64) (IL _ _)
      · exact He z1.out z2 z3 z4.out z5.out hx.out hy.out ag d aa (fun b e=>by cases e;exact Nat.le_refl _) (by rw[e0,Nat.add_zero];exact IK _ _)
  · obtain rfl:k=xs.length:=by omega
    replace z1:=zh z1;replace z4:=zh z4;replace z5:=zh z5;have HO:=z2;clear ha hc hx hy ad ae
    go_wp2_with (at_builtin;refine wpList_append_fits _ rfl _ _ 140 rfl w.heap.size 159 i0 1 Tryz.underlying140 hi af w.heap.size xs.length (xs.length+1) (Co zs) rfl (HO.alloc _) ⟨wr.heap.size,0,none⟩ 1 1 [.int .u64 (b:Int)] rfl rfl (Cj _ _ _) (BP _ _) (by omega) ?_;intro w2 d aa)
    obtain⟨us,u1,u2,u3,u4,u5⟩:=N0 z1.out z2 z3 z4.out z5.out (by omega) ag d aa (fun b e=>by cases e;exact Nat.le_refl _) rfl;have U3:=zh u3;have U4:=zh u4;clear u3 u4 d aa;refine(Dv _ _ us (by have:=U3.out;omega) u2).mono ?_;rintro e w' ⟨v,k,rfl,ht,hs,hf,rfl⟩;go_wp2;go_ret;exact⟨v,rfl,⟨us.take k,ht.canon u1,by rw[ht.lv,U4.out],hs⟩,hf _ (Nat.le_refl _),u5⟩
theorem Tg (w:World) (v u:Value) (n m:Nat) (hn:Num w v n) (hm:Num w u m) (aa:BQ n) (ae:BQ m) :
 Calls Tryz.prog 175 #[v,u] w (Cu w.heap.size w (n+m)):=by
 obtain⟨xs,hx,rfl,ad⟩:=hn;obtain⟨ys,hy,rfl,d⟩:=hm;have hl:=hx.len_le (k:=200) aa;have af:=hy.len_le (k:=200) ae;obtain⟨a,cap,rfl,ha⟩:=ad.addr;obtain⟨c,cap',rfl,hc⟩:=d.addr
 by_cases h:ys.length<=xs.length
 · exact Qq w a cap xs c cap' ys (by omega) h hx.1 hy.1 ha hc
 · rw[Nat.add_comm];exact I2 w c cap' ys a cap xs (by omega) (by omega) hy.1 hx.1 hc ha
end Nt
end
section
open Go.RowKit Go.Shelf
attribute [local go_sem] Oper.semAt_some
namespace Nt
def Bm (x y:Nat):Int:=if x<y then -1 else if y<x then 1 else 0
theorem VE (x y:Nat) (w:World) :
 Calls Tryz.prog 196 #[.int .u64 (x:Int),.int .u64 (y:Int)] w fun e w'=>e=.returned (.int .i64 (Bm x y))/\w=w':=by
 have h:x<y∨(¬x<y/\y<x)∨(¬x<y/\¬y<x):=by omega
 unfold Bm
 rcases h with h | ⟨h,h'⟩ | ⟨h,h'⟩
 all_goals
  go_enter Tryz.func196,Tryz.ntmps196;go_wp2;go_ret
  simp_all
theorem Wo (x y:Nat) (w:World) :
 Calls Tryz.prog 195 #[.int .i64 (x:Int),.int .i64 (y:Int)] w fun e w'=>e=.returned (.int .i64 (Bm x y))/\w=w':=by
 have h:x<y∨(¬x<y/\y<x)∨(¬x<y/\¬y<x):=by omega
 unfold Bm
 rcases h with h | ⟨h,h'⟩ | ⟨h,h'⟩
 all_goals
  go_enter Tryz.func195,Tryz.ntmps195;go_wp2;go_ret
  simp_all
theorem IM (x:Nat) (w:World) :
 Calls Tryz.prog 195 #[.int .i64 (x:Int),.int .i64 (x:Int)] w fun e w'=>e=.returned (.int .i64 0)/\w=w':=by
 go_enter Tryz.func195,Tryz.ntmps195;go_wp2;go_ret;exact⟨rfl,rfl⟩
theorem IN (x:Nat) (w:World) :
 Calls Tryz.prog 196 #[.int .u64 (x:Int),.int .u64 (x:Int)] w fun e w'=>e=.returned (.int .i64 0)/\w=w':=by
 go_enter Tryz.func196,Tryz.ntmps196;go_wp2;go_ret;exact⟨rfl,rfl⟩
theorem Cv {x y:Nat} (h:x<y):Bm x y=-1:=by simp[Bm,h]
theorem FE {x y:Nat} (h:y<x):Bm x y=1:=by unfold Bm;rw[if_neg (by omega),if_pos h]
theorem J8 (x:Nat):Bm x x=0:=by simp[Bm]
theorem IO {x y:Nat} (h:Bm x y=0):x=y:=by
 unfold Bm at h
 split at h
 · cases h
 · split at h
   · cases h
   · omega
theorem KeepsOthers.of_below {W W':World} (h:Below W.heap.size W W'):KeepsOthers W W' :=
 ⟨h.size,fun k _ hk _=>(h.block k (Array.getElem?_eq_some_iff.1 hk).1).trans hk⟩
theorem K9 (w:World) (a:Option Addr) (n cap:Nat) (c:Option Addr) (m cap':Nat) (d:n≠m) :
 Calls Tryz.prog 166 #[.slice a n cap,.slice c m cap'] w fun e w'=>e=.returned (.int .i64 (Bm n m))/\Below w.heap.size w w':=by
 have aa:(Bm n m != 0)=true:=by
  rw[bne_iff_ne];intro h;exact d (IO h)
 go_enter Tryz.func166,Tryz.ntmps166
 go_wp2_with (go_at_call 195;refine(Wo n m _).mono ?_;rintro e w' ⟨rfl,rfl⟩)
 refine bodyPost_ret (v:=.int .i64 (Bm n m)) (by simp[results,Tryz.results166,go_sem]) rfl ⟨rfl,?_⟩;exact((Below.refl _ w).alloc (Nat.le_refl _) _).alloc (by simp) _
theorem KA {n:Nat} (k:Nat) (hk:k<=n) (p:B5 n):p∈CA n k↔n-k<=p.1:=by
 induction k with
 | zero=>simp[Dl];omega
 | succ k ih =>
   rw[CB n k (by omega),List.mem_append,ih (by omega)];simp only[List.mem_cons,List.not_mem_nil,or_false];constructor
   · rintro(h | h)
     · omega
     · have hv:=congrArg Subtype.val h;dsimp only at hv;omega
   · intro h
     by_cases e:p.1=n-1-k
     · right;exact Subtype.ext e
     · left;omega
theorem KB {xs ys:List Nat} (he:xs.length=ys.length) (k:Nat) (hk:k<=xs.length) (h:∀j,k<=j->j<xs.length->lim xs j=lim ys j):lv xs+lo ys k=lv ys+lo xs k:=by
 obtain⟨d,hd⟩:∃d,k+d=xs.length:=⟨xs.length-k,by omega⟩
 induction d generalizing k with
 | zero=>rw[DN ys k (by omega),DN xs k (by omega)];omega
 | succ d ih =>
   have:=ih (k+1) (by omega) (fun j h1 h2=>h j (by omega) h2) (by omega);rw[Ch,Ch,h k (Nat.le_refl _) (by omega)]at this;omega
theorem LE {xs ys:List Nat} (he:xs.length=ys.length) (h:∀p:B5 xs.length,p∈CA xs.length xs.length->lim xs p.1=lim ys p.1):lv xs=lv ys:=by
 have:=KB he 0 (Nat.zero_le _) (fun j _ hj=>h ⟨j,hj⟩ ((KA _ (Nat.le_refl _) _).2 (by simp)));rw[DB,DB]at this;omega
theorem Hs {A a B b P x y:Nat} (h:A+(b+P*y)=B+(a+P*x)) (ha:a<P) (d:x<y):A<B:=by
 have:P*(x+1)<=P*y:=Nat.mul_le_mul_left _ d;rw[Nat.mul_add]at this;omega
theorem KC {xs ys:List Nat} (he:xs.length=ys.length) (hx:InR xs) (hy:InR ys) {k:Nat} (hk:k<=xs.length) {pre:List (B5 xs.length)} {x:B5 xs.length} (hp:CA xs.length k=pre++[x])
 (a:∀p:B5 xs.length,p∈pre->lim xs p.1=lim ys p.1) (d:lim xs x.1≠lim ys x.1):Bm (lv xs) (lv ys)=Bm (lim xs x.1) (lim ys x.1):=by
 cases k with
 | zero=>rw[Dl]at hp;simp at hp
 | succ k =>
   rw[CB _ _ (by omega)]at hp;obtain⟨h1,h2⟩:=List.append_inj' hp rfl;simp only[List.cons.injEq,and_true]at h2;subst h1;have hv:xs.length-1-k=x.1:=congrArg Subtype.val h2;rw[<-hv]at d ⊢;clear h2 hp hv;have:=KB he (xs.length-1-k+1) (by omega) (fun j h1 h2=>a ⟨j,h2⟩ ((KA k (by omega) _).2 (by simp;omega)));rw[Ch,Ch]at this;have a1:=U0 hx (xs.length-1-k);have a2:=U0 hy (xs.length-1-k)
   rcases Nat.lt_or_ge (lim xs (xs.length-1-k)) (lim ys (xs.length-1-k)) with h | h
   · rw[Cv h,Cv (Hs this a1 h)]
   · have h':lim ys (xs.length-1-k)<lim xs (xs.length-1-k):=by omega
     rw[FE h',FE (Hs this.symm a2 h')]
theorem LF (w:World) (a:Option Addr) (cap:Nat) (xs:List Nat) (c:Option Addr) (cap':Nat) (ys:List Nat) (he:xs.length=ys.length) (hl:xs.length<=1000000) (hx:Hid (InR xs)) (hy:Hid (InR ys)) (b:Nat) (hb:b<w.heap.size)
 (ha:SlAt w b (.slice a xs.length cap) xs)
 (hc:ys≠[]->∃b off,c=some ⟨b,off,none⟩/\b<w.heap.size/\∀i,i<ys.length->w.cell? ⟨b,off+i,none⟩=some (.int .u64 (lim ys i))) :
 Calls Tryz.prog 166 #[.slice a xs.length cap,.slice c ys.length cap'] w fun e w'=>e=.returned (.int .i64 (Bm (lv xs) (lv ys)))/\Below w.heap.size w w':=by
 have HEQ:=zh he;refine(callsIn_wide (n:=9)).1 ?_;refine callsIn_of_wp_marks Tryz.func166 rfl trivial ?_ rfl;simp only[Tryz.ntmps166,List.size_toArray,List.length_cons,List.length_nil,Nat.reduceAdd,Nat.reduceSub,Array.replicate_succ,Array.replicate_zero,List.push_toArray,List.append_toArray,List.nil_append,List.cons_append];rw[<-he];have HE:=zh he;clear he
 gi_wp2_with (first
  | (refine⟨trivial,?_⟩;gi_at_call 195;refine(callsIn_wide.2 (IM xs.length _)).mono ?_;rintro e w' ⟨rfl,rfl⟩)
  | (gi_at_call 195;refine(callsIn_wide.2 (IM xs.length _)).mono ?_;rintro e w' ⟨rfl,rfl⟩)
  | (refine⟨trivial,?_⟩;gi_at_call 165;refine(Dm Fence.wide _ trivial rfl _ _ _ _).mono ?_;rintro e w' ⟨rfl,rfl⟩)
  | (gi_at_call 165;refine(Dm Fence.wide _ trivial rfl _ _ _ _).mono ?_;rintro e w' ⟨rfl,rfl⟩))
 have ad:Below w.heap.size w (((w.alloc (.cells #[.slice c xs.length cap'] 140)).alloc (.cells #[.int .i64 0] 3)).alloc (.cells #[.slice a xs.length cap] 140)) :=
  (((Below.refl _ w).alloc (Nat.le_refl _) _).alloc (by simp) _).alloc (by simp;omega) _
 have hm:(((w.alloc (.cells #[.slice c xs.length cap'] 140)).alloc (.cells #[.int .i64 0] 3)).alloc (.cells #[.slice a xs.length cap] 140)).cell? ⟨w.heap.size,0,none⟩=some (.slice c xs.length cap'):=by go_simp
 have hr:(((w.alloc (.cells #[.slice c xs.length cap'] 140)).alloc (.cells #[.int .i64 0] 3)).alloc (.cells #[.slice a xs.length cap] 140)).cell? ⟨w.heap.size+1,0,none⟩=some (.int .i64 0):=by go_simp
 have af:(((w.alloc (.cells #[.slice c xs.length cap'] 140)).alloc (.cells #[.int .i64 0] 3)).alloc (.cells #[.slice a xs.length cap] 140)).frozen? ⟨w.heap.size+1,0,none⟩=false:=by go_simp
 have ag:(((w.alloc (.cells #[.slice c xs.length cap'] 140)).alloc (.cells #[.int .i64 0] 3)).alloc (.cells #[.slice a xs.length cap] 140)).cell? ⟨w.heap.size+1+1,0,none⟩=some (.slice a xs.length cap):=by go_simp
 have au:(((w.alloc (.cells #[.slice c xs.length cap'] 140)).alloc (.cells #[.int .i64 0] 3)).alloc (.cells #[.slice a xs.length cap] 140)).heap.size=w.heap.size+3:=by simp
 generalize (((w.alloc (.cells #[.slice c xs.length cap'] 140)).alloc (.cells #[.int .i64 0] 3)).alloc (.cells #[.slice a xs.length cap] 140))=W1 at ad hm hr af ag au ⊢
 have ai:∀i,i<xs.length->∃b off,c=some ⟨b,off,none⟩/\W1.cell? ⟨b,off+i,none⟩=some (.int .u64 (lim ys i))/\b<W1.heap.size:=fun i hi=>by
  have e:=HE.out;obtain⟨b2,o2,h1,h2,h3⟩:=hc (by intro e2;rw[e2]at e;simp only[List.length_nil]at e;omega);exact⟨b2,o2,h1,(ad.cell (p:=⟨b2,o2+i,none⟩) h2).trans (h3 i (by omega)),by omega⟩
 have ah:SlAt W1 b (.slice a xs.length cap) xs:=ha.keep (c:=b) (Keep2.of_below ad hb hb);clear hc ha HE
 refine wpIn_rangeFunc_ownF rfl (by decide) (gf:=194) (lb:=#[.pointer (some ⟨w.heap.size+1+1,0,none⟩)]) rfl trivial (enters_of Tryz.func194 (by kernel_rfl) rfl)
  (Fz Fence.wide _ trivial rfl (by decide) (w.heap.size+1+1) b _ xs hl W1 (by omega) (by omega) ag ah) (fun h k=>h.trans k)
  (fun W l o o' hl h ho hw=>?kb) (Below.refl _ _) (fun _=>rfl)
  (fun pre W=>(∀p∈pre,lim xs p.1=lim ys p.1)/\Below W1.heap.size W1 W)
  (fun c pre W=>c=.ret/\∃x pre',pre=pre'++[x]/\(∀p∈pre',lim xs p.1=lim ys p.1)/\lim xs x.1≠lim ys x.1/\W.cell? ⟨w.heap.size+1,0,none⟩=some (.int .i64 (Bm (lim xs x.1) (lim ys x.1)))/\Below w.heap.size w W)
  (OwnFrom.and (ownFrom_pure _ _) (ownFrom_below (Nat.le_refl _) (Nat.le_refl _)))
  (fun c s A B row hs hg am=>?ix)
  ⟨by simp,Below.refl _ _⟩
  (fun x=>{ tmps:=#[.slice a xs.length cap,.slice c xs.length cap',undef,.pointer (some ⟨w.heap.size,0,none⟩),.pointer (some ⟨w.heap.size+1,0,none⟩),.int .i64 0,.int .i64 (x.1:Int),.int .u64 (lim xs x.1),undef,
    .slice a xs.length cap,.int .i64 xs.length,.slice c xs.length cap',.int .i64 xs.length,.int .i64 0,.int .i64 0,.bool false,undef,.slice a xs.length cap,
    .func (.func 194) #[] #[.pointer (some ⟨w.heap.size+1+1,0,none⟩)],.int .i64 (x.1:Int),.int .u64 (lim xs x.1),undef,undef,undef,undef,undef,undef,undef,undef,undef],defers:=[] })
  ?assign ?body ?done ?stop
 case kb =>
  have h1:=(Array.getElem?_eq_some_iff.1 h).1;exact⟨World.putObj_heap_other (by omega),World.putObj_heap_other (by omega)⟩
 case ix =>
  obtain⟨e,x,pre',e1,e2,e3,e4,e5⟩:=hs;refine⟨e,x,pre',e1,e2,e3,cell_kept e4 hg (fun r e=>(am r e).2),e5.grown hg e5.size (fun k e=>?_)⟩;have:=(am k e).1;omega
 case assign =>
  intro l x W K hK
  gi_wp2
  exact hK
 case body =>
  rintro l pre x W ⟨aa,d⟩ av;have aw:=(d.cell (p:=⟨w.heap.size,0,none⟩) (by simp;omega)).trans hm;have al:=(d.cell (p:=⟨w.heap.size+1,0,none⟩) (by simp;omega)).trans hr;have ao:=(d.frozen (p:=⟨w.heap.size+1,0,none⟩) (by simp;omega)).trans af;obtain⟨b2,o2,aq,an,ar⟩:=ai x.1 x.2;have aj:=(d.cell (p:=⟨b2,o2+x.1,none⟩) ar).trans an;obtain⟨i,hi⟩:=x;dsimp only at aj ⊢;subst aq;have HP:=zh aa;have HB:=zh d;have HB1:=zh ad;clear aa d ad ai ah hm hr af ag an
  by_cases hq:lim xs i=lim ys i
  · have HQ:=zh hq;rw[<-hq]at aj;clear hq
    gi_wp2_with (first
     | (refine⟨trivial,?_⟩;gi_at_call 196;refine(CallsIn.inRound l (callsIn_wide.2 (IN (lim xs i) _))).mono ?_;rintro e w' ⟨rfl,rfl⟩)
     | (gi_at_call 196;refine(CallsIn.inRound l (callsIn_wide.2 (IN (lim xs i) _))).mono ?_;rintro e w' ⟨rfl,rfl⟩))
    refine⟨KeepsOthers.of_below (Below.refl _ _),Keep2.refl _ _ _,?_,HB.out⟩;intro p hp
    rcases List.mem_append.1 hp with h | h
    · exact HP.out p h
    · simp only[List.mem_cons,List.not_mem_nil,or_false]at h;subst h;exact HQ.out
  · have ax:(Bm (lim xs i) (lim ys i) != 0)=true:=by rw[bne_iff_ne];intro h;exact hq (IO h)
    have HQ:=zh hq;clear hq
    gi_wp2_with (first
     | (refine⟨trivial,?_⟩;gi_at_call 196;refine(CallsIn.inRound l (callsIn_wide.2 (VE (lim xs i) (lim ys i) _))).mono ?_;rintro e w' ⟨rfl,rfl⟩)
     | (gi_at_call 196;refine(CallsIn.inRound l (callsIn_wide.2 (VE (lim xs i) (lim ys i) _))).mono ?_;rintro e w' ⟨rfl,rfl⟩))
    exact⟨KeepsOthers.setCell _ _ _,rfl,⟨i,hi⟩,pre,rfl,HP.out,HQ.out,World.cell?_setCell_same' _ _ _ (by rw[al];rfl),(HB1.out.trans (HB.out.mono (by omega))).setCell (by simp) _⟩
 case done =>
  rintro D zs W hD rfl ⟨ae,d⟩ hK;have al:=(d.cell (p:=⟨w.heap.size+1,0,none⟩) (by simp;omega)).trans hr;have ao:=(d.frozen (p:=⟨w.heap.size+1,0,none⟩) (by simp;omega)).trans af;have HA:=zh ae;have HB:=zh (ad.trans (d.mono (by omega)));clear ae d ad ai ah hm hr af ag
  gi_wp2
  refine⟨by simp,.inl ⟨_,_,rfl,run_takeDeferred (((KeepsOthers.setCell W ⟨w.heap.size+1,0,none⟩ (.int .i64 0)).same D _ hK rfl)),?_⟩⟩
  have ak:((W.setCell ⟨w.heap.size+1,0,none⟩ (.int .i64 0)).putObj D (.deferred none)).cell? ⟨w.heap.size+1,0,none⟩=some (.int .i64 0) :=
   cell_kept (World.cell?_setCell_same' _ _ _ (by rw[al];rfl)) (grownBy_putObj' _ D (.deferred none)) (fun r e=>by cases e;exact⟨_,(KeepsOthers.setCell W ⟨w.heap.size+1,0,none⟩ (.int .i64 0)).same D _ hK rfl,rfl⟩)
  have ae:lv xs=lv ys:=LE HEQ.out HA.out;rw[ae,J8];refine⟨.int .i64 0,by simp[results,Tryz.results166,go_sem,ak],rfl,?_⟩;exact(HB.out.setCell (p:=⟨w.heap.size+1,0,none⟩) (by simp) _).grown (grownBy_putObj' _ D _) (by have:=HB.out.size;simp[World.setCell];omega) (fun k e=>by cases e;omega)
 case stop =>
  rintro D c pre W hD ⟨k,hk,aa⟩ ⟨rfl,x,pre',h1,h2,h3,h4,h5⟩ hK;have H2:=zh h2;have H3:=zh h3;have H5:=zh h5;have HPR:=zh (aa.symm.trans h1);clear h2 h3 h5 aa h1 ad ai ah hm hr af ag
  gi_wp2
  refine⟨by simp,.inl ⟨_,_,rfl,run_takeDeferred hK,?_⟩⟩
  have ak:(W.putObj D (.deferred none)).cell? ⟨w.heap.size+1,0,none⟩=some (.int .i64 (Bm (lim xs x.1) (lim ys x.1))) :=
   cell_kept h4 (grownBy_putObj' _ D (.deferred none)) (fun r e=>by cases e;exact⟨_,hK,rfl⟩)
  rw[KC HEQ.out hx.out hy.out hk HPR.out H2.out H3.out];refine⟨.int .i64 (Bm (lim xs x.1) (lim ys x.1)),by simp[results,Tryz.results166,go_sem,ak],rfl,?_⟩;exact H5.out.grown (grownBy_putObj' _ D _) H5.out.size (fun k e=>by cases e;omega)
theorem SlAt.of {w:World} {v:Value} {xs:List Nat} (h:Sl w v xs) (h0:0<w.heap.size):∃b,b<w.heap.size/\SlAt w b v xs:=by
 rcases h.shape with⟨rfl,rfl⟩ | ⟨b,off,cap,rfl,hb,_,hc⟩
 · exact⟨0,h0,.inl ⟨rfl,0,rfl⟩⟩
 · exact⟨b,hb,.inr ⟨off,cap,rfl,hc⟩⟩
theorem EC (w:World) (v u:Value) (n m:Nat) (hn:Num w v n) (hm:Num w u m) (ad:BQ n) (h0:0<w.heap.size) :
 Calls Tryz.prog 166 #[v,u] w fun e w'=>e=.returned (.int .i64 (Bm n m))/\Below w.heap.size w w':=by
 obtain⟨xs,hx,rfl,d⟩:=hn;obtain⟨ys,hy,rfl,aa⟩:=hm;have hl:=hx.len_le (k:=200) ad
 by_cases he:xs.length=ys.length
 · obtain⟨b,hb,ae⟩:=SlAt.of d h0;obtain⟨a,cap,rfl,_⟩:=d.addr;obtain⟨c,cap',rfl,hc⟩:=aa.addr;exact LF w a cap xs c cap' ys he (by omega) hx.1 hy.1 b hb ae hc
 · obtain ⟨a,cap,rfl,_⟩:=d.addr;obtain⟨c,cap',rfl,hc⟩:=aa.addr;refine(K9 w a xs.length cap c ys.length cap' he).mono ?_;rintro e w' ⟨rfl,hb⟩;refine⟨?_,hb⟩
   rcases Nat.lt_or_ge xs.length ys.length with h | h
   · have h1:=Ky hx.1;have h2:=hy.ge (by intro e;simp[e]at h);have h3:1000000000^xs.length<=1000000000^(ys.length-1):=Nat.pow_le_pow_right (by omega) (by omega);rw[Cv h,Cv (by omega)]
   · have h':ys.length<xs.length:=by omega
     have h1:=Ky hy.1;have h2:=hx.ge (by intro e;simp[e]at h');have h3:1000000000^ys.length<=1000000000^(xs.length-1):=Nat.pow_le_pow_right (by omega) (by omega);rw[FE h',FE (by omega)]
end Nt
end
section
open Go.RowKit Go.Shelf
namespace Nt
def LG (n:Nat) (p:Nat->Bool) (w:World) (e:Ending) (w':World):Prop :=
 ∃r:Nat,e=.returned (.int .i64 (r:Int))/\r<=n/\(∀i,i<r->p i=false)/\(r<n->p r=true)/\Below w.heap.size w w'
theorem LH (n:Nat) (hn:n<=1000000000) (p:Nat->Bool) (c1 c2:Value) (w:World)
 (ae:Hid (∀a b,a<=b->b<n->p a=true->p b=true))
 (H:Hid (∀W i,Below w.heap.size w W->i<n->Calls Tryz.prog 168 #[.int .i64 (i:Int),c1,c2] W fun e W'=>e=.returned (.bool (p i))/\Below W.heap.size W W')) :
 Calls Tryz.prog 167 #[.int .i64 (n:Int),.func (.func 168) #[] #[c1,c2]] w (LG n p w):=by
 go_enter Tryz.func167,Tryz.ntmps167;go_wp2
 go_loopw [5,6] (fun i j wr=>∃a b:Nat,a<=b/\b<=n/\i=.int .i64 a/\j=.int .i64 b/\Hid ((∀k,k<a->p k=false)/\(b<n->p b=true))/\Below w.heap.size w wr)
  (fun i j _=>(intOf j-intOf i).toNat)
 case atStart=>exact⟨0,n,Nat.zero_le _,Nat.le_refl _,rfl,rfl,⟨fun k h=>by omega,fun h=>by omega⟩,Below.refl _ _⟩
 case round =>
  obtain⟨a,b,aj,af,rfl,rfl,aa,d⟩:=hrel;replace d:=zh d
  by_cases hlt:a<b
  · go_wp2_with fail
    obtain⟨q,hq⟩:∃q:Nat,q=(a+b)/2:=⟨_,rfl⟩;have e:((a:Int)+b)/2=(q:Int):=by rw[hq];omega
    rw[e];have ah:a<=q:=by omega
    have ak:q<b:=by omega
    clear hq e;refine(H.out _ q d.out (by omega)).mono ?_;rintro e w' ⟨rfl,ag⟩;have ad:=zh (d.out.trans (ag.mono d.out.size));clear ag d
    by_cases hp:p q=true
    · have HP:=zh hp;rw[hp];clear hp;go_wp2;exact⟨⟨a,q,ah,by omega,rfl,rfl,⟨aa.out.1,fun _=>HP.out⟩,ad.out⟩,by simp only[intOf];omega⟩
    · replace hp:p q=false:=by simpa using hp
      have HP:=zh hp;rw[hp];clear hp;go_wp2;refine⟨⟨q+1,b,by omega,af,by go_num,rfl,⟨fun k hk=>?_,aa.out.2⟩,ad.out⟩,by simp only[intOf];omega⟩
      cases ai:p k with
      | false=>rfl
      | true=>rw[<-HP.out];exact(ae.out k q (by omega) (by omega) ai).symm
  · obtain rfl:a=b:=by omega
    go_wp2;go_ret;exact⟨a,rfl,af,aa.out.1,aa.out.2,d.out⟩
end Nt
end
section
open Go.RowKit
namespace Nt
def RelMul (B:Nat) (w:World) (xs ys:List Nat) (g:Nat) (i:Nat) (wr:World):Prop :=
 ∃zs,zs.length=xs.length+ys.length/\InR zs/\Row 159 wr g zs/\lv zs=lo xs i*lv ys/\(∀j,i+ys.length<=j->lim zs j=0)/\Below B w wr
def RelMulIn (B:Nat) (w:World) (xs ys:List Nat) (g:Nat) (i j c:Nat) (wr:World):Prop :=
 ∃ zs,zs.length=xs.length+ys.length/\InR zs/\Row 159 wr g zs/\c<1000000000 /\
  lv zs+c*1000000000^(i+j)=lo xs i*lv ys+1000000000^i*(lim xs i*lo ys j)/\(∀j,i+ys.length<=j->lim zs j=0)/\Below B w wr
theorem Qr {Z Z' R P x z c c':Nat} {T:Nat} (h:Z+c*P=R) (hs:Z'+P*z=Z+P*(x%1000000000)) (hc:c'=x/1000000000) (hx:x=z+T+c) :
 Z'+c'*(P*1000000000)=R+P*T:=by
 have e1:P*x=P*z+P*T+P*c:=by rw[hx,Nat.mul_add,Nat.mul_add]
 have e2:P*x=P*(x%1000000000)+P*(1000000000*(x/1000000000)):=by rw[<-Nat.mul_add,Nat.mod_add_div]
 have e3:c'*(P*1000000000)=P*(1000000000*(x/1000000000)):=by
  rw[hc,Nat.mul_comm,Nat.mul_assoc]
 have e4:c*P=P*c:=Nat.mul_comm _ _;omega
theorem RelMulIn.step {B:Nat} {w wr:World} {xs ys:List Nat} {g i j c:Nat} (h:RelMulIn B w xs ys g i j c wr) (hB:B<=g) (hi:i<xs.length) (hj:j<ys.length) (hx:InR xs) (hy:InR ys)
 {z T:Nat} {y:Int} (hz:wr.cell? ⟨g,i+j,none⟩=some (.int .u64 (z:Int))) (hT:T=lim xs i*lim ys j) (he:y=(((z+T+c)%1000000000:Nat):Int)) :
 RelMulIn B w xs ys g i (j+1) ((z+T+c)/1000000000) (wr.setCell ⟨g,i+j,none⟩ (.int .u64 y)):=by
 subst he hT;obtain⟨zs,h1,h2,h3,h4,h5,h6,h7⟩:=h;have a:=h3.cell (i:=i+j) (by omega);rw[hz]at a;have d:z=lim zs (i+j):=by simp at a;omega
 have b1:=h2.lim (i+j);have b2:=hx.lim i;have b3:=hy.lim j;have b4:lim xs i*lim ys j<=999999999*999999999:=Nat.mul_le_mul (by omega) (by omega);refine⟨zs.set (i+j) ((z+lim xs i*lim ys j+c)%1000000000),by simpa using h1,h2.set _ _ (Nat.mod_lt _ (by omega)),h3.set _ _,by omega,?_,fun p hp=>?_,h7.setCell hB _⟩
 · have hs:=LB zs (i+j) ((z+lim xs i*lim ys j+c)%1000000000) (by omega);rw[<-d]at hs;have:=Qr h5 hs rfl rfl;rw[Ch,show i+(j+1)=i+j+1 from rfl,Nat.pow_succ,this,Nat.mul_add,Nat.mul_add]
   have e:1000000000^(i+j)*(lim xs i*lim ys j)=1000000000^i*(lim xs i*(1000000000^j*lim ys j)):=by
    rw[Nat.pow_add,Nat.mul_assoc,Nat.mul_left_comm (1000000000^j)]
   omega
 · rw[Bi _ _ _ _ (by omega)];exact h6 p hp
theorem RelMul.start {B:Nat} {w wr:World} {xs ys:List Nat} {g i:Nat} (h:RelMul B w xs ys g i wr):RelMulIn B w xs ys g i 0 0 wr:=by
 obtain⟨zs,h1,h2,h3,h4,h5,h6⟩:=h;exact⟨zs,h1,h2,h3,by omega,by simp[h4,DB],h5,h6⟩
theorem RelMulIn.done {B:Nat} {w wr:World} {xs ys:List Nat} {g i c:Nat} (h:RelMulIn B w xs ys g i ys.length c wr) (hB:B<=g) (hi:i<xs.length) :
 RelMul B w xs ys g (i+1) (wr.setCell ⟨g,i+ys.length,none⟩ (.int .u64 (c:Int))):=by
 obtain⟨zs,h1,h2,h3,h4,h5,h6,h7⟩:=h;refine⟨zs.set (i+ys.length) c,by simpa using h1,h2.set _ _ h4,h3.set _ _,?_,fun p hp=>?_,h7.setCell hB _⟩
 · have hs:=LB zs (i+ys.length) c (by omega);rw[h6 _ (Nat.le_refl _)]at hs;rw[DN ys _ (Nat.le_refl _)]at h5;rw[Ch,Nat.add_mul,Nat.mul_assoc];have:c*1000000000^(i+ys.length)=1000000000^(i+ys.length)*c:=Nat.mul_comm _ _;omega
 · rw[Bi _ _ _ _ (by omega)];exact h6 p (by omega)
theorem Qs (z a b c:Nat):((z:Int)+a*b+c)/1000000000=(((z+a*b+c)/1000000000:Nat):Int):=by
 rw[Int.natCast_ediv,Int.natCast_add,Int.natCast_add,Int.natCast_mul];rfl
theorem Qt (z a b c:Nat):((z:Int)+a*b+c)%1000000000=(((z+a*b+c)%1000000000:Nat):Int):=by
 rw[Int.natCast_emod,Int.natCast_add,Int.natCast_add,Int.natCast_mul];rfl
theorem RelMulIn.at {B:Nat} {w wr:World} {xs ys:List Nat} {g i j c:Nat} (h:RelMulIn B w xs ys g i j c wr) (hi:i<xs.length) (hj:j<ys.length) :
 ∃z:Nat,z<1000000000/\wr.cell? ⟨g,i+j,none⟩=some (.int .u64 (z:Int))/\wr.frozen? ⟨g,i+j,none⟩=false/\c<1000000000/\Below B w wr:=by
 obtain⟨zs,h1,h2,h3,h4,h5,h6,h7⟩:=h;exact⟨lim zs (i+j),h2.lim _,h3.cell (by omega),h3.frozen _,h4,h7⟩
theorem Qu (w:World) (a:Option Addr) (cap:Nat) (xs:List Nat) (c:Option Addr) (cap':Nat) (ys:List Nat) (hl:xs.length<=1000) (au:ys.length<=1000)
 (hx:InR xs) (hy:InR ys)
 (ha:xs≠[]->∃b off,a=some ⟨b,off,none⟩/\b<w.heap.size/\∀i,i<xs.length->w.cell? ⟨b,off+i,none⟩=some (.int .u64 (lim xs i)))
 (hc:ys≠[]->∃b off,c=some ⟨b,off,none⟩/\b<w.heap.size/\∀i,i<ys.length->w.cell? ⟨b,off+i,none⟩=some (.int .u64 (lim ys i))) :
 Calls Tryz.prog 135 #[.slice a xs.length cap,.slice c ys.length cap'] w (Cu w.heap.size w (lv xs*lv ys)):=by
 have h:=Eo (xs.length+ys.length) (by omega);rw[Int.natCast_add]at h;go_enter Tryz.func135,Tryz.ntmps135;go_wp2
 go_loopw [20] (fun i wr=>∃k:Nat,k<=xs.length/\i=.int .i64 k/\RelMul w.heap.size w xs ys w.heap.size k wr)
  (fun i _=>xs.length-(intOf i).toNat)
 case atStart=>exact⟨0,Nat.zero_le _,rfl,List.replicate (xs.length+ys.length) 0,by simp,InR.zeros _,Row.made0 _ _ _,by rw[DB,Nat.zero_mul];exact Hn _ (fun j hj=>DV _ _),(fun j hj=>DV _ _),(Below.refl _ _).alloc (Nat.le_refl _) _⟩
 case round =>
  obtain⟨k,hk,rfl,hrel⟩:=hrel
  by_cases hkn:k<xs.length
  · obtain ⟨bx,ox,ak,am,af⟩:=ha (by intro e;simp[e]at hkn);obtain⟨zs,z1,z2,z3,z4,z5,z6⟩:=id hrel;have an:=(z6.cell (p:=⟨bx,ox+k,none⟩) am).trans (af k hkn);have ar:=hx.lim k;subst ak;have HC:=zh hc;clear af ha z1 z2 z3 z4 z5 z6 h hc;have HR:=zh hrel;clear hrel;go_wp2;obtain⟨wo,rfl⟩:∃wo:World,wo=wr:=⟨_,rfl⟩
    go_loopw [8,27] (fun cc j wr=>∃q c:Nat,q<=ys.length/\j=.int .i64 q/\cc=.int .u64 c/\RelMulIn w.heap.size w xs ys w.heap.size k q c wr)
     (fun _ j _=>ys.length-(intOf j).toNat)
    case atStart=>exact⟨0,0,Nat.zero_le _,rfl,rfl,HR.out.start⟩
    case round =>
     obtain⟨q,c2,hq,rfl,rfl,hrel⟩:=hrel
     by_cases hqn:q<ys.length
     · obtain ⟨b2,oy,aj,ah,ae⟩:=HC.out (by intro e;simp[e]at hqn);subst aj;obtain⟨z,hz,ad,ai,aq,d⟩:=hrel.at hkn hqn;have ao:=d.cell (p:=⟨b2,oy+q,none⟩) ah |>.trans (ae q hqn)
       have av:=hy.lim q
       have al:(lim xs k:Int)*(lim ys q:Int)<=999999998000000001:=by
        have:lim xs k*lim ys q<=999999999*999999999:=Nat.mul_le_mul (by omega) (by omega);have:((lim xs k*lim ys q:Nat):Int)<=((999999999*999999999:Nat):Int):=by exact_mod_cast this
        simpa using this
       have ag:0<=(lim xs k:Int)*(lim ys q:Int):=Int.mul_nonneg (by omega) (by omega);replace hrel:=zh hrel;replace hx:=zh hx;replace hy:=zh hy;clear ae d HC;go_wp2
       exact ⟨⟨q+1,(z+lim xs k*lim ys q+c2)/1000000000,by omega,by go_num,congrArg (Value.int .u64) (Qs _ _ _ _),
        hrel.out.step (Nat.le_refl _) hkn hqn hx.out hy.out ad rfl (Qt _ _ _ _)⟩,by simp only[intOf];omega⟩
     · obtain rfl:q=ys.length:=by omega
       have HR':=zh (hrel.done (Nat.le_refl _) hkn);obtain⟨zs,z1,z2,z3,z4,z5,z6,z7⟩:=hrel;have ad:=z3.cell (i:=k+ys.length) (by omega);have ai:=z3.frozen (k+ys.length);replace hx:=zh hx;replace hy:=zh hy;clear z1 z2 z3 z5 z6 z7 HC;go_wp2;exact⟨⟨k+1,by omega,by go_num,HR'.out⟩,by simp only[intOf];omega⟩
  · obtain rfl:k=xs.length:=by omega
    obtain⟨zs,z1,z2,z3,z4,z5,z6⟩:=id hrel;have Z1:=zh z1;have Z4:=zh z4;have aa:=z3.sl;rw[z1]at aa;clear z1 z4 hrel ha hc h z5
    go_wp2_with (go_at_call 164;refine(Dv _ _ _ (by have:=Z1.out;omega) aa).mono ?_;rintro e w' ⟨v,k,rfl,ht,hs,hf,rfl⟩)
    go_ret;exact⟨v,rfl,⟨zs.take k,ht.canon z2,by rw[ht.lv,Z4.out,DN _ _ (Nat.le_refl _)],hs⟩,hf _ (Nat.le_refl _),z6⟩
theorem J9 (w:World) (v u:Value) (n m:Nat) (hn:Num w v n) (hm:Num w u m) (h:BQ n) (ad:BQ m) :
 Calls Tryz.prog 135 #[v,u] w (Cu w.heap.size w (n*m)):=by
 obtain⟨xs,hx,rfl,aa⟩:=hn;obtain⟨ys,hy,rfl,d⟩:=hm;have hl:=hx.len_le (k:=200) h;have ae:=hy.len_le (k:=200) ad;obtain⟨a,cap,rfl,ha⟩:=aa.addr;obtain⟨c,cap',rfl,hc⟩:=d.addr;exact Qu w a cap xs c cap' ys (by omega) (by omega) hx.1 hy.1 ha hc
end Nt
end
section
open Go.RowKit Go.Shelf
namespace Nt
theorem N1 (w:World) (x:Nat) (h0:0<x) (h:x<1000000000) {X:Int} (hX:X=(x:Int)) :
 Num (w.alloc (.cells #[.int .u64 X] 159)) (.slice (some ⟨w.heap.size,0,none⟩) 1 1) x:=by
 subst hX;refine⟨[x],⟨fun y hy=>?_,?_⟩,by simp[lv],?_⟩
 · simp at hy;omega
 · simp;omega
 · refine Sl.mk (xs:=[x]) (by simp) (Nat.le_refl _) (fun i hi=>?_);have hi:i<1:=hi;obtain rfl:i=0:=by omega
   rw[Nat.zero_add,World.cell?_alloc_new];rfl
theorem BR {a b:Nat} (h:BQ b) (d:a<=b):BQ a:=Nat.lt_of_le_of_lt d h
theorem Ht {a:Nat} (h:a<1000000000):BQ a:=by
 have h1:1000000000^1<=1000000000^200:=Nat.pow_le_pow_right (by omega) (by omega);rw[Nat.pow_one]at h1;exact Nat.lt_of_lt_of_le h h1
theorem Qv (x y:Nat):decide (0<Bm x y)=decide (y<x):=by
 unfold Bm
 split
 · simp;omega
 · split
   · simp;omega
   · simp;omega
theorem KD (W:World) (k:Nat) (hk:k<999999999) (bm br:Nat) (mv rv:Value) (M R:Nat) (hm:W.cell? ⟨bm,0,none⟩=some mv) (hr:W.cell? ⟨br,0,none⟩=some rv)
 (hM:Hid (Num W mv M)) (hR:Hid (Num W rv R)) (ae:Hid (BQ (M*1000000000))) :
 Calls Tryz.prog 168 #[.int .i64 (k:Int),.pointer (some ⟨bm,0,none⟩),.pointer (some ⟨br,0,none⟩)] W fun e W'=>e=.returned (.bool (decide (R<M*(k+1))))/\Below W.heap.size W W':=by
 have ad:br<W.heap.size:=block_lt_of_cell hr;have af:bm<W.heap.size:=block_lt_of_cell hm;have s1:IntKind.i64.wrap ((k:Int)+1)=(k:Int)+1:=IntWalk.i64_in _ (by omega);have s2:IntKind.u64.wrap ((k:Int)+1)=(k:Int)+1:=IntWalk.u64_in _ (by omega);have h:=N1 W (k+1) (by omega) (by omega) (X:=(k:Int)+1) (by omega);have cM:=J9 (W.alloc (.cells #[.int .u64 ((k:Int)+1)] 159)).drew mv (.slice (some ⟨W.heap.size,0,none⟩) 1 1) M (k+1) (hM.out.below ((Below.refl _ _).alloc (Nat.le_refl _) _).drew) h (BR ae.out (by omega)) (Ht (by omega));go_enter Tryz.func168,Tryz.ntmps168;go_wp2
 go_region_held3 (fun w'=>w'.cell? ⟨bm,0,none⟩=some mv/\w'.cell? ⟨br,0,none⟩=some rv)
  (first
    | go_keep
    | (go_split_ands
       refine⟨?_,?_⟩
       · assumption
       · assumption))
  (first
  | (go_at_call 135;refine cM.mono ?_;rintro e w' ⟨v,rfl,hv,_,hb⟩;have d:Below W.heap.size W w':=((Below.refl W.heap.size W).alloc (Nat.le_refl _) _).drew.trans (hb.mono (by simp));have ah:=(d.cell (p:=⟨bm,0,none⟩) af).trans hm;have ag:=(d.cell (p:=⟨br,0,none⟩) ad).trans hr;replace hb:=zh hb;replace d:=zh d)
  | (go_at_call 166;refine(EC _ _ _ (M*(k+1)) R (by assumption) (by exact hR.out.below (Hid.out (by assumption))) (BR ae.out (Nat.mul_le_mul_left _ (by omega))) (by have:=(Hid.out (p:=Below W.heap.size W _) (by assumption)).size;omega)).mono ?_;rintro e w2 ⟨rfl,aa⟩;have a:Below W.heap.size W w2:=d.out.trans (aa.mono d.out.size);have aj:=(a.cell (p:=⟨bm,0,none⟩) af).trans hm;have ai:=(a.cell (p:=⟨br,0,none⟩) ad).trans hr;replace a:=zh a;clear ah ag aa))
 go_wp2;go_ret;exact⟨congrArg (fun b=>Ending.returned (.bool b)) (Qv _ _),a.out⟩
end Nt
end
end Go.Proofs.YtilodknkildkbaaGreatDoor

/- Texts that the proof needs: CirPlain, CirComp, CirRank, CirStage, NatLib, NatPlain, NatDigits, NatIs, NatTrim, NatBack, NatFormat, NatText, NatSub, NatParse, NatAdd, NatCmp, NatSearch, NatMul, NatDiv. -/
import Derived.WalkKit
import Derived.Test.YtioidbebjgeahaaGreatDoorShelf
import Derived.Lib.SmallJoins
import Derived.Lib.QuietBelow
import Derived.WalkSmall
import Derived.Shelf.Strings.BuilderK
import Derived.Lib.ItoaNum
import Derived.Lib.ParseIntB
import Derived.Lib.SlTrimSet
import Derived.Outline
import Derived.Test.YtioidbebjgeahaaGreatDoorProg
import Derived.BigQuiet
import Derived.Lib.Hide
import Derived.RangeFuncNested
import Derived.RangeFuncBound
import Derived.RangeFuncCalls
import Derived.RangeFuncLeaves
import Derived.Shelf.Abstract
import Derived.Shelf.RegionOpen
import Derived.OwnWalkIn
import Derived.TacticsInMore
import Derived.LoopNIn
import Derived.LoopIn
import Derived.Lib.ItoaMem
import Derived.Lib.OthersKept
import Derived.Deep.OwnRows
import Derived.Lib.IndexBytes
import Derived.Deep.RegionWith
import Derived.BigRegion
import Derived.Deep.RegionHeld3
set_option maxHeartbeats 2000000
set_option maxRecDepth 100000
namespace Go.Proofs.YtioidbebjgeahaaGreatDoor
section
namespace Ci
inductive Way (E:List (Nat×Nat)):Nat→Nat→Nat→Prop
 | here (p:Nat):Way E p p 0
 | step {p q r k:Nat} (h:Way E p q k) (e:(q,r)∈E):Way E p r (k+1)
def Reach (E:List (Nat×Nat)) (p q:Nat):Prop:=∃k,Way E p q k
def WayF (E:List (Nat×Nat)) (F:List Nat) (p k:Nat):Prop:=∃f,f∈F∧Way E f p k
def InN (n:Nat) (E:List (Nat×Nat)):Prop:=∀x,x∈E→x.1<n∧x.2<n
section
variable {E:List (Nat×Nat)} {F:List Nat} {n p q r j k:Nat}
theorem Way.trans (h:Way E p q j) (h2:Way E q r k):Way E p r (j+k):=by
 induction h2 with
 | here=>exact h
 | step _ e ih=>exact ih.step e
theorem Way.one (e:(p,q)∈E):Way E p q 1:=(Way.here p).step e
theorem Way.zero (h:Way E p q 0):p=q:=by cases h;rfl
theorem Way.last (h:Way E p r (k+1)):∃q,Way E p q k∧(q,r)∈E:=by
 cases h with
 | step h e=>exact⟨_,h,e⟩
theorem Way.first (h:Way E p r (k+1)):∃q,(p,q)∈E∧Way E q r k:=by
 induction k generalizing r with
 | zero =>
   obtain⟨q,h1,e⟩:=h.last;obtain rfl:=h1.zero;exact⟨r,e,.here r⟩
 | succ k ih =>
   obtain⟨q,h1,e⟩:=h.last;obtain⟨x,e1,h2⟩:=ih h1;exact⟨x,e1,h2.step e⟩
theorem Way.lt (hE:InN n E) (h:Way E p q k) (hp:p<n):q<n:=by
 cases h with
 | here=>exact hp
 | step _ e=>exact(hE _ e).2
theorem Way.mono {E':List (Nat×Nat)} (hs:∀x,x∈E→x∈E') (h:Way E p q k):Way E' p q k:=by
 induction h with
 | here=>exact .here _
 | step _ e ih=>exact ih.step (hs _ e)
theorem Reach.refl (p:Nat):Reach E p p:=⟨0,.here p⟩
theorem Reach.trans (h:Reach E p q) (h2:Reach E q r):Reach E p r:=by
 obtain⟨j,a⟩:=h;obtain⟨k,b⟩:=h2;exact⟨_,a.trans b⟩
theorem Reach.one (e:(p,q)∈E):Reach E p q:=⟨1,.one e⟩
theorem Reach.lt (hE:InN n E) (h:Reach E p q) (hp:p<n):q<n:=by obtain⟨k,a⟩:=h;exact a.lt hE hp
theorem Reach.closed {C:Nat→Prop} (h:Reach E p q) (h0:C p) (hc:∀a b,C a→(a,b)∈E→C b):C q:=by
 obtain⟨k,a⟩:=h
 induction a with
 | here=>exact h0
 | step _ e ih=>exact hc _ _ ih e
theorem wayF_zero:WayF E F p 0↔p∈F:=⟨fun⟨_,h,w⟩=>by rw[←w.zero];exact h,fun h=>⟨p,h,.here p⟩⟩
theorem wayF_succ:WayF E F p (k+1)↔∃q,WayF E F q k∧(q,p)∈E:=by
 constructor
 · rintro⟨f,h,w⟩;obtain⟨q,a,e⟩:=w.last;exact⟨q,⟨f,h,a⟩,e⟩
 · rintro⟨q,⟨f,h,a⟩,e⟩;exact⟨f,h,a.step e⟩
def IsRk (E:List (Nat×Nat)) (F:List Nat) (p:Nat) (r:Int):Prop :=
 (r=-1∧∀k,¬WayF E F p k)∨∃k:Nat,r=(k:Int)∧WayF E F p k∧∀j,j<k→¬WayF E F p j
theorem least_ex {P:Nat→Prop}:∀k,P k→∃j,j≤k∧P j∧∀i,i<j→¬P i:=by
 intro k
 induction k using Nat.strongRecOn with
 | ind k ih =>
   intro h
   by_cases h2:∃i,i<k∧P i
   · obtain⟨i,hi,hp⟩:=h2;obtain⟨j,h3,h4⟩:=ih i hi hp;exact⟨j,by omega,h4⟩
   · exact⟨k,Nat.le_refl _,h,fun i hi hp=>h2 ⟨i,hi,hp⟩⟩
theorem isRk_ex (E:List (Nat×Nat)) (F:List Nat) (p:Nat):∃r,IsRk E F p r:=by
 by_cases h:∃k,WayF E F p k
 · obtain⟨k,hk⟩:=h;obtain⟨j,_,h1,h2⟩:=least_ex k hk;exact⟨j,.inr ⟨j,rfl,h1,h2⟩⟩
 · exact⟨-1,.inl ⟨rfl,fun k hk=>h ⟨k,hk⟩⟩⟩
theorem isRk_one {a b:Int} (h:IsRk E F p a) (h2:IsRk E F p b):a=b:=by
 rcases h with⟨rfl,h⟩ | ⟨k,rfl,h,hm⟩
 · rcases h2 with⟨rfl,_⟩ | ⟨j,rfl,h3,_⟩
   · rfl
   · exact absurd h3 (h j)
 · rcases h2 with⟨rfl,h3⟩ | ⟨j,rfl,h3,hm2⟩
   · exact absurd h (h3 k)
   · have h4:¬k<j:=fun c=>hm2 k c h;have h5:¬j<k:=fun c=>hm j c h3;omega
noncomputable def rk (E:List (Nat×Nat)) (F:List Nat) (p:Nat):Int:=Classical.choose (isRk_ex E F p)
theorem rk_is (E:List (Nat×Nat)) (F:List Nat) (p:Nat):IsRk E F p (rk E F p):=Classical.choose_spec (isRk_ex E F p)
theorem rk_eq {a:Int} (h:IsRk E F p a):rk E F p=a:=isRk_one (rk_is E F p) h
theorem rk_le (h:WayF E F p k):0≤rk E F p∧rk E F p≤k:=by
 rcases rk_is E F p with⟨_,h2⟩ | ⟨j,h1,_,h2⟩
 · exact absurd h (h2 k)
 · have:¬k<j:=fun c=>h2 k c h;omega
theorem rk_way (h:rk E F p=k):WayF E F p k:=by
 rcases rk_is E F p with⟨h1,_⟩ | ⟨j,h1,h2,_⟩
 · omega
 · obtain rfl:j=k:=by omega
   exact h2
theorem rk_zero:rk E F p=0↔p∈F:=by
 constructor
 · intro h;exact wayF_zero.1 (rk_way (k:=0) (by omega))
 · intro h;have:=rk_le (wayF_zero.2 h:WayF E F p 0);omega
theorem rk_edge (h:0≤rk E F q) (e:(q,p)∈E):0≤rk E F p∧rk E F p≤rk E F q+1:=by
 obtain⟨k,hk⟩:∃k:Nat,rk E F q=k:=⟨(rk E F q).toNat,by omega⟩;have:=rk_le (wayF_succ.2 ⟨q,rk_way hk,e⟩:WayF E F p (k+1));omega
theorem rk_pred (h:rk E F p=((k+1:Nat):Int)):∃q,rk E F q=(k:Int)∧(q,p)∈E:=by
 obtain⟨q,h1,e⟩:=wayF_succ.1 (rk_way h);have h2:=rk_le h1;have h3:=rk_edge h2.1 e;exact⟨q,by omega,e⟩
theorem nodup_len:∀(n:Nat) (l:List Nat),l.Nodup→(∀x,x∈l→x<n)→l.length≤n:=by
 intro n
 induction n with
 | zero =>
   intro l _ h
   cases l with
   | nil=>exact Nat.le_refl _
   | cons a l=>exact absurd (h a (List.mem_cons_self ..)) (Nat.not_lt_zero _)
 | succ n ih =>
   intro l hd h
   have h1:=ih (l.erase n) (hd.erase n) fun x hx=>by
    have h2:=(hd.mem_erase_iff).1 hx;have:=h x h2.2;omega
   by_cases hm:n∈l
   · rw[List.length_erase_of_mem hm]at h1;omega
   · rw[List.erase_of_not_mem hm]at h1;omega
theorem rk_chain:∀(k:Nat) (p:Nat),rk E F p=(k:Int)→∃l:List Nat,l.length=k+1∧l.Nodup∧(∀x,x∈l→∃j:Nat,j≤k∧rk E F x=(j:Int))∧∀x,x∈l→x=p∨∃y,(x,y)∈E:=by
 intro k
 induction k with
 | zero=>exact fun p h=>⟨[p],rfl,by simp,fun x hx=>⟨0,Nat.le_refl _,by rw[List.mem_singleton.1 hx];exact h⟩,fun x hx=>.inl (List.mem_singleton.1 hx)⟩
 | succ k ih =>
   intro p h;obtain⟨q,h1,e⟩:=rk_pred h;obtain⟨l,h2,h3,h4,h5⟩:=ih q h1;refine⟨p::l,by simp[h2],List.nodup_cons.2 ⟨fun hm=>?_,h3⟩,fun x hx=>?_,fun x hx=>?_⟩
   · obtain⟨j,hj,e2⟩:=h4 p hm;omega
   · rcases List.mem_cons.1 hx with rfl | hx
     · exact⟨k+1,Nat.le_refl _,h⟩
     · obtain⟨j,hj,e2⟩:=h4 x hx;exact⟨j,by omega,e2⟩
   · rcases List.mem_cons.1 hx with rfl | hx
     · exact .inl rfl
     · rcases h5 x hx with rfl | h6
       · exact .inr ⟨p,e⟩
       · exact .inr h6
theorem rk_lt (hE:InN n E) (hp:p<n):rk E F p<n:=by
 by_cases h:0≤rk E F p
 · obtain ⟨k,hk⟩:∃k:Nat,rk E F p=k:=⟨(rk E F p).toNat,by omega⟩;obtain⟨l,h1,h2,_,h4⟩:=rk_chain k p hk
   have:=nodup_len n l h2 fun x hx=>by
    rcases h4 x hx with rfl | ⟨y,e⟩
    · exact hp
    · exact(hE _ e).1
   omega
 · omega
end
end Ci
end
section
namespace Ci
open Classical
def Mut (E:List (Nat×Nat)) (p q:Nat):Prop:=Reach E p q∧Reach E q p
section
variable {E:List (Nat×Nat)} {n p q r:Nat} {left:List Nat}
theorem Mut.refl (p:Nat):Mut E p p:=⟨.refl p,.refl p⟩
theorem Mut.symm (h:Mut E p q):Mut E q p:=⟨h.2,h.1⟩
theorem Mut.trans (h:Mut E p q) (h2:Mut E q r):Mut E p r:=⟨h.1.trans h2.1,h2.2.trans h.2⟩
theorem fst_ex (E:List (Nat×Nat)) (p:Nat):∃q,Mut E p q∧∀r,Mut E p r→q≤r:=by
 obtain⟨q,_,h1,h2⟩:=least_ex (P:=Mut E p) p (.refl p);exact⟨q,h1,fun r hr=>Nat.le_of_not_lt fun c=>h2 r c hr⟩
noncomputable def fst (E:List (Nat×Nat)) (p:Nat):Nat:=Classical.choose (fst_ex E p)
theorem fst_mut:Mut E p (fst E p):=(Classical.choose_spec (fst_ex E p)).1
theorem fst_le (h:Mut E p q):fst E p≤q:=(Classical.choose_spec (fst_ex E p)).2 q h
theorem fst_eq (h:Mut E p q):fst E p=fst E q:=Nat.le_antisymm (fst_le (h.trans fst_mut)) (fst_le (h.symm.trans fst_mut))
theorem fst_iff:fst E p=fst E q↔Mut E p q:=⟨fun h=>(h▸fst_mut (p:=p)).trans fst_mut.symm,fst_eq⟩
theorem fst_fst:fst E (fst E p)=fst E p:=(fst_eq fst_mut).symm
theorem fst_lt (h:p<n):fst E p<n:=Nat.lt_of_le_of_lt (fst_le (.refl p)) h
noncomputable def comp (n:Nat) (E:List (Nat×Nat)) (p:Nat):List Nat:=(List.range n).filter fun q=>decide (Mut E p q)
theorem mem_comp:q∈comp n E p↔q<n∧Mut E p q:=by simp[comp]
theorem comp_nodup:(comp n E p).Nodup:=List.nodup_range.filter _
noncomputable def leasts (n:Nat) (E:List (Nat×Nat)):List Nat:=(List.range n).filter fun p=>decide (fst E p=p)
theorem mem_leasts:p∈leasts n E↔p<n∧fst E p=p:=by simp[leasts]
def Free (E:List (Nat×Nat)) (left:List Nat) (p:Nat):Prop:=∀h q,Mut E p q→(h,q)∈E→fst E h∈left→fst E h=p
noncomputable def pick (E:List (Nat×Nat)) (left:List Nat):Option Nat:=left.find? fun p=>decide (Free E left p)
noncomputable def ord (E:List (Nat×Nat)):Nat→List Nat→List Nat
 | 0,_=>[]
 | k+1,left=>match pick E left with
   | none=>[]
   | some p=>p::ord E k (left.erase p)
structure Left (n:Nat) (E:List (Nat×Nat)) (left:List Nat):Prop where
 own:∀x,x∈left→x<n∧fst E x=x
 up:∀x y,x∈left→Reach E x y→fst E y∈left
 sorted:left.Pairwise (·<·)
theorem Left.start (hE:InN n E):Left n E (leasts n E) :=
 ⟨fun _ h=>mem_leasts.1 h,fun _ _ h hr=>mem_leasts.2 ⟨fst_lt (hr.lt hE (mem_leasts.1 h).1),fst_fst⟩,List.pairwise_lt_range.filter _⟩
theorem Left.nodup (h:Left n E left):left.Nodup:=h.sorted.imp fun hab=>Nat.ne_of_lt hab
theorem enter (h:Reach E p q):¬Mut E p q→∃a b,Reach E p a∧(a,b)∈E∧Mut E q b∧¬Mut E q a:=by
 obtain⟨k,w⟩:=h;intro hn
 have key:∀x,(∃j,Way E x q j)→Reach E p x→¬Mut E q x→∃a b,Reach E p a∧(a,b)∈E∧Mut E q b∧¬Mut E q a:=by
  rintro x ⟨j,hw⟩
  induction j generalizing x with
  | zero=>exact fun _ h2=>absurd (by rw[hw.zero];exact .refl q) h2
  | succ j ih =>
    intro hx h2;obtain⟨y,e,hw2⟩:=hw.first
    by_cases hy:Mut E q y
    · exact⟨x,y,hx,e,hy,h2⟩
    · exact ih y hw2 (hx.trans (.one e)) hy
 exact key p ⟨k,w⟩ (.refl p) fun h=>hn h.symm
theorem Left.erase (h:Left n E left) (hp:p∈left) (hf:Free E left p):Left n E (left.erase p):=by
 have hd:=h.nodup;refine⟨fun x hx=>h.own x (List.mem_of_mem_erase hx),fun x y hx hr=>?_,h.sorted.sublist List.erase_sublist⟩;obtain⟨hxp,hxl⟩:=hd.mem_erase_iff.1 hx;refine hd.mem_erase_iff.2 ⟨fun e=>?_,h.up x y hxl hr⟩;have hyp:Mut E p y:=fst_iff.1 (by rw[(h.own p hp).2,e]);have hrp:Reach E x p:=hr.trans hyp.2;obtain⟨a,b,h1,h2,h3,h4⟩:=enter hrp fun hm=>hxp (by rw[←(h.own x hxl).2,fst_eq hm,(h.own p hp).2]);have h5:=hf a b h3 h2 (h.up x a hxl h1);exact h4 (fst_iff.1 (by rw[(h.own p hp).2,h5]))
theorem filter_lt {f g:Nat→Bool}:∀{l:List Nat},(∀x,x∈l→f x=true→g x=true)→(∃x,x∈l∧f x=false∧g x=true)→(l.filter f).length<(l.filter g).length:=by
 intro l
 induction l with
 | nil=>rintro _ ⟨x,h,_⟩;cases h
 | cons a l ih =>
   intro hs hx
   have hle:(l.filter f).length≤(l.filter g).length:=by
    have:∀m:List Nat,(∀x,x∈m→f x=true→g x=true)→(m.filter f).length≤(m.filter g).length:=by
     intro m
     induction m with
     | nil=>intro _;exact Nat.le_refl _
     | cons b m ihm =>
       intro hm;have h1:=ihm fun x h=>hm x (List.mem_cons_of_mem _ h);have h2:=hm b (List.mem_cons_self ..)
       cases hf:f b<;>cases hg:g b<;>simp[hf,hg]<;>simp_all<;>omega
    exact this l fun x h=>hs x (List.mem_cons_of_mem _ h)
   by_cases ha:f a=false∧g a=true
   · simp[ha.1,ha.2];omega
   · have hex:∃x,x∈l∧f x=false∧g x=true:=by
      obtain⟨x,h1,h2,h3⟩:=hx
      rcases List.mem_cons.1 h1 with rfl | h1
      · exact absurd ⟨h2,h3⟩ ha
      · exact⟨x,h1,h2,h3⟩
     have h1:=ih (fun x h=>hs x (List.mem_cons_of_mem _ h)) hex;have h2:=hs a (List.mem_cons_self ..)
     cases hf:f a<;>cases hg:g a<;>simp[hf,hg]<;>simp_all
theorem least_of (f:Nat→Nat):∀l:List Nat,l≠[]→∃x,x∈l∧∀y,y∈l→f x≤f y:=by
 intro l
 induction l with
 | nil=>intro h;exact absurd rfl h
 | cons a l ih =>
   intro _
   by_cases h:l=[]
   · exact⟨a,List.mem_cons_self ..,fun y hy=>by rw[h]at hy;rw[List.mem_singleton.1 hy];exact Nat.le_refl _⟩
   · obtain ⟨x,h1,h2⟩:=ih h
     by_cases hc:f a≤f x
     · exact ⟨a,List.mem_cons_self ..,fun y hy=>by
        rcases List.mem_cons.1 hy with rfl | hy
        · exact Nat.le_refl _
        · exact Nat.le_trans hc (h2 y hy)⟩
     · exact ⟨x,List.mem_cons_of_mem _ h1,fun y hy=>by
        rcases List.mem_cons.1 hy with rfl | hy
        · omega
        · exact h2 y hy⟩
theorem Left.free (h:Left n E left) (hne:left≠[]):∃p,p∈left∧Free E left p:=by
 obtain⟨p,hp,hm⟩:=least_of (fun p=>((List.range n).filter fun q=>decide (Reach E q p)).length) left hne;refine⟨p,hp,fun a b h1 h2 h3=>Classical.byContradiction fun hc=>?_⟩;have h4:=hm _ h3;have h5:Reach E (fst E a) p:=(fst_mut.2.trans (.one h2)).trans h1.2
 have h6:((List.range n).filter fun q=>decide (Reach E q (fst E a))).length<((List.range n).filter fun q=>decide (Reach E q p)).length :=
  filter_lt (fun x _ hx=>decide_eq_true ((of_decide_eq_true hx).trans h5)) ⟨p,List.mem_range.2 (h.own p hp).1,decide_eq_false fun hr=>hc (by
   have:=fst_eq (E:=E) (p:=fst E a) (q:=p) ⟨h5,hr⟩
   rwa [fst_fst,(h.own p hp).2]at this),decide_eq_true (.refl p)⟩
 omega
theorem pick_ex (h:Left n E left) (hne:left≠[]):∃p,pick E left=some p:=by
 obtain⟨p,h1,h2⟩:=h.free hne
 cases hp:pick E left with
 | some q=>exact⟨q,rfl⟩
 | none =>
   unfold pick at hp;rw[List.find?_eq_none]at hp;exact absurd (decide_eq_true h2) (hp p h1)
theorem pick_says (h:Left n E left) (hp:pick E left=some p):p∈left∧Free E left p∧∀q,q∈left→Free E left q→p≤q:=by
 unfold pick at hp;obtain⟨h1,us,bs,h2,h3⟩:=List.find?_eq_some_iff_append.1 hp;refine⟨by rw[h2];simp,of_decide_eq_true h1,fun q hq hf=>?_⟩;have hs:=h.sorted;rw[h2]at hq hs
 rcases List.mem_append.1 hq with hq | hq
 · have:=h3 q hq;rw[decide_eq_true hf]at this
   cases this
 · rcases List.mem_cons.1 hq with rfl | hq
   · exact Nat.le_refl _
   · exact Nat.le_of_lt ((List.pairwise_cons.1 (List.pairwise_append.1 hs).2.1).1 q hq)
theorem pick_of (h:Left n E left) (h1:p∈left) (h2:Free E left p) (h3:∀q,q∈left→Free E left q→p≤q):pick E left=some p:=by
 cases hp:pick E left with
 | none =>
   unfold pick at hp;rw[List.find?_eq_none]at hp;exact absurd (decide_eq_true h2) (hp p h1)
 | some q =>
   obtain⟨a,b,c⟩:=pick_says h hp;have:=h3 q a b;have:=c p h1 h2;rw[show q=p by omega]
theorem ord_mem:∀(k:Nat) (left:List Nat),Left n E left→left.length≤k→∀p,p∈ord E k left↔p∈left:=by
 intro k
 induction k with
 | zero =>
   intro left _ hk p;rw[List.length_eq_zero_iff.1 (Nat.le_zero.1 hk)];exact Iff.rfl
 | succ k ih =>
   intro left h hk p
   by_cases hne:left=[]
   · subst hne;simp[ord,pick]
   · obtain ⟨q,hq⟩:=pick_ex h hne;obtain⟨h1,h2,_⟩:=pick_says h hq;have h3:=ih _ (h.erase h1 h2) (by rw[List.length_erase_of_mem h1];omega) p;unfold ord;rw[hq];dsimp only;rw[List.mem_cons,h3,h.nodup.mem_erase_iff];constructor
     · rintro(rfl | h4)
       · exact h1
       · exact h4.2
     · intro h4
       by_cases e:p=q
       · exact .inl e
       · exact .inr ⟨e,h4⟩
theorem ord_nodup:∀(k:Nat) (left:List Nat),Left n E left→left.length≤k→(ord E k left).Nodup∧(ord E k left).length=left.length:=by
 intro k
 induction k with
 | zero =>
   intro left _ hk;rw[List.length_eq_zero_iff.1 (Nat.le_zero.1 hk)];exact⟨List.nodup_nil,rfl⟩
 | succ k ih =>
   intro left h hk
   by_cases hne:left=[]
   · subst hne;simp[ord,pick]
   · obtain ⟨q,hq⟩:=pick_ex h hne;obtain⟨h1,h2,_⟩:=pick_says h hq;have hk2:(left.erase q).length≤k:=by rw[List.length_erase_of_mem h1];omega
     have h3:=ih _ (h.erase h1 h2) hk2;have h4:=ord_mem k _ (h.erase h1 h2) hk2 q;have h5:=List.length_pos_of_mem h1;unfold ord;rw[hq];dsimp only;refine⟨List.nodup_cons.2 ⟨fun hm=>?_,h3.1⟩,?_⟩
     · exact(h.nodup.mem_erase_iff.1 (h4.1 hm)).1 rfl
     · rw[List.length_cons,h3.2,List.length_erase_of_mem h1];omega
theorem ord_links:∀(k:Nat) (left:List Nat),Left n E left→left.length≤k→∀(i j:Nat) (hi:i<(ord E k left).length) (hj:j<(ord E k left).length) (a b:Nat),
 (a,b)∈E→fst E a=(ord E k left)[i]→fst E b=(ord E k left)[j]→i≤j:=by
 intro k
 induction k with
 | zero=>intro left _ _ i j hi;simp[ord]at hi
 | succ k ih =>
   intro left h hk i j hi hj a b e ha hb
   by_cases hne:left=[]
   · subst hne;simp[ord,pick]at hi
   · obtain ⟨q,hq⟩:=pick_ex h hne;obtain⟨h1,h2,_⟩:=pick_says h hq;have hk2:(left.erase q).length≤k:=by rw[List.length_erase_of_mem h1];omega
     have hu:ord E (k+1) left=q::ord E k (left.erase q):=by conv=>lhs;unfold ord;rw[hq]
     simp only[hu]at hi hj ha hb
     cases i with
     | zero=>exact Nat.zero_le _
     | succ i =>
       cases j with
       | zero =>
         simp only[List.getElem_cons_succ,List.getElem_cons_zero]at ha hb;have hm:=(ord_mem k _ (h.erase h1 h2) hk2 _).1 (List.getElem_mem (by simpa using hi:i<(ord E k (left.erase q)).length));rw[←ha]at hm;obtain⟨h3,h4⟩:=h.nodup.mem_erase_iff.1 hm;exact absurd (h2 a b (fst_iff.1 (by rw[hb,(h.own q h1).2])) e h4) h3
       | succ j =>
         simp only[List.getElem_cons_succ]at ha hb;have:=ih _ (h.erase h1 h2) hk2 i j (by simpa using hi) (by simpa using hj) a b e ha hb;omega
end
noncomputable def ords (n:Nat) (E:List (Nat×Nat)):List Nat:=ord E n (leasts n E)
noncomputable def comps (n:Nat) (E:List (Nat×Nat)):List (List Nat):=(ords n E).map (comp n E)
end Ci
end
section
namespace Ci
def setI (o:Nat→Int) (q:Nat) (v:Int):Nat→Int:=fun x=>if x=q then v else o x
section
variable {E:List (Nat×Nat)} {F:List Nat} {n p q r i:Nat} {out:Nat→Int}
theorem setI_same (o:Nat→Int) (q:Nat) (v:Int):setI o q v q=v:=if_pos rfl
theorem setI_other {o:Nat→Int} {q x:Nat} {v:Int} (h:x≠q):setI o q v x=o x:=if_neg h
structure Lv (n:Nat) (E:List (Nat×Nat)) (F:List Nat) (r i:Nat) (out:Nat→Int):Prop where
 low:∀x,x<n→rk E F x≤r→out x=rk E F x
 mid:∀x,x<n→rk E F x=(r:Int)+1→out x=(r:Int)+1∨(out x=-1∧∀h,(h,x)∈E.take i→rk E F h≠r)
 high:∀x,x<n→(r:Int)+1<rk E F x→out x=-1
theorem Lv.right (h:Lv n E F r i out) {x:Nat} (hx:x<n) (h0:0≤out x):out x=rk E F x:=by
 by_cases h1:rk E F x≤r
 · exact h.low x hx h1
 · by_cases h2:rk E F x=(r:Int)+1
   · rcases h.mid x hx h2 with h3 | h3
     · rw[h3,h2]
     · omega
   · have:=h.high x hx (by omega);omega
theorem take_snoc {α:Type} {l:List α} {i:Nat} (h:i<l.length):l.take (i+1)=l.take i++[l[i]]:=by
 rw[List.take_succ_eq_append_getElem h]
theorem Lv.set (h:Lv n E F r i out) (hi:i<E.length) (hE:InN n E) (h1:out E[i].1=r) (h2:out E[i].2<0):Lv n E F r (i+1) (setI out E[i].2 ((r:Int)+1)):=by
 obtain⟨a1,a2⟩:=hE _ (List.getElem_mem hi);have b1:rk E F E[i].1=r:=by rw[←h.right a1 (by omega),h1]
 have b2:=rk_edge (E:=E) (F:=F) (q:=E[i].1) (p:=E[i].2) (by omega) (List.getElem_mem hi)
 have b3:rk E F E[i].2=(r:Int)+1:=by
  by_cases c:rk E F E[i].2≤r
  · have:=h.low _ a2 c;omega
  · omega
 refine⟨fun x hx hl=>?_,fun x hx hl=>?_,fun x hx hl=>?_⟩
 · rw[setI_other fun e=>by rw[e]at hl;omega];exact h.low x hx hl
 · by_cases e:x=E[i].2
   · exact .inl (by rw[e,setI_same])
   · rw [setI_other e]
     rcases h.mid x hx hl with h3 | ⟨h3,h4⟩
     · exact .inl h3
     · refine .inr ⟨h3,fun y hy=>?_⟩;rw[take_snoc hi]at hy
       rcases List.mem_append.1 hy with hy | hy
       · exact h4 y hy
       · exact absurd (by rw[←List.mem_singleton.1 hy]) e
 · rw[setI_other fun e=>by rw[e]at hl;omega];exact h.high x hx hl
theorem Lv.skip (h:Lv n E F r i out) (hi:i<E.length) (hE:InN n E) (h1:¬(out E[i].1=r∧out E[i].2<0)):Lv n E F r (i+1) out:=by
 obtain⟨a1,a2⟩:=hE _ (List.getElem_mem hi);refine⟨h.low,fun x hx hl=>?_,h.high⟩
 rcases h.mid x hx hl with h3 | ⟨h3,h4⟩
 · exact .inl h3
 · refine .inr ⟨h3,fun y hy hr=>?_⟩;rw[take_snoc hi]at hy
   rcases List.mem_append.1 hy with hy | hy
   · exact h4 y hy hr
   · have e:=List.mem_singleton.1 hy;have e1:E[i].1=y:=by rw[←e]
     have e2:E[i].2=x:=by rw[←e]
     refine h1 ⟨?_,by rw[e2,h3];omega⟩;rw[e1,h.low y (by rw[←e1];exact a1) (by omega),hr]
theorem Lv.next (h:Lv n E F r E.length out):Lv n E F (r+1) 0 out:=by
 have hm:∀x,x<n→rk E F x=(r:Int)+1→out x=(r:Int)+1:=fun x hx hl=>by
  rcases h.mid x hx hl with h3 | ⟨_,h4⟩
  · exact h3
  · obtain⟨q,h5,h6⟩:=rk_pred (k:=r) (p:=x) (E:=E) (F:=F) (by omega);exact absurd h5 (h4 q (by rw[List.take_length];exact h6))
 refine⟨fun x hx hl=>?_,fun x hx hl=>.inr ⟨h.high x hx (by omega),fun y hy=>by simp at hy⟩,fun x hx hl=>h.high x hx (by omega)⟩
 by_cases c:rk E F x≤r
 · exact h.low x hx c
 · rw[hm x hx (by omega)];omega
theorem Lv.whole (h:Lv n E F r i out) (hr:n≤r) (hE:InN n E) {x:Nat} (hx:x<n):out x=rk E F x:=by
 have:=rk_lt (F:=F) hE hx;exact h.low x hx (by omega)
theorem Lv.at (h:Lv n E F r i out) (hE:InN n E) {x:Nat} (hx:x<n) (hr:n≤r∨0≤out x):out x=rk E F x:=by
 rcases hr with hr | hr
 · exact h.whole hr hE hx
 · exact h.right hx hr
structure Bf (n:Nat) (E:List (Nat×Nat)) (F:List Nat) (ex:Nat→Prop) (out:Nat→Int) (queue:List Nat):Prop where
 way:∀x,x<n→0≤out x→WayF E F x (out x).toNat
 neg:∀x,x<n→-1≤out x
 src:∀f,f∈F→out f=0
 edge:∀x y,x<n→(x,y)∈E→0≤out x→x∉queue→¬ex x→0≤out y∧out y≤out x+1
 pos:∀x,x∈queue→x<n∧0≤out x
 sorted:queue.Pairwise fun a b=>out a≤out b∧out b≤out a+1
 done:∀x,x<n→0≤out x→x∉queue→∀y,y∈queue→out x≤out y
 nodup:queue.Nodup
theorem Bf.start (hF:F.Nodup) (hn:∀f,f∈F→f<n) (h0:∀x,x<n→out x=if x∈F then 0 else -1):Bf n E F (fun _=>False) out F:=by
 have hs:∀f,f∈F→out f=0:=fun f hf=>by rw[h0 f (hn f hf),if_pos hf]
 have hr:∀x,x<n→0≤out x→x∈F:=fun x hx h=>by
  rw[h0 x hx]at h
  split at h
  · assumption
  · omega
 refine⟨fun x hx h=>?_,fun x hx=>?_,hs,fun x y hx _ h hq=>absurd (hr x hx h) hq,fun x hx=>⟨hn x hx,by rw[hs x hx];omega⟩,?_,fun x hx h hq=>absurd (hr x hx h) hq,hF⟩
 · rw[hs x (hr x hx h)];exact wayF_zero.2 (hr x hx h)
 · rw[h0 x hx];split<;>omega
 · exact List.Pairwise.imp_of_mem (R:=fun _ _=>True) (fun ha hb _=>by rw[hs _ ha,hs _ hb];omega) (List.pairwise_of_forall fun _ _=>trivial)
theorem Bf.end (h:Bf n E F (fun _=>False) out []) (hn:∀f,f∈F→f<n) (hE:InN n E) {x:Nat} (hx:x<n):out x=rk E F x:=by
 have key:∀k y,WayF E F y k→y<n∧0≤out y∧out y≤k:=by
  intro k
  induction k with
  | zero =>
    intro y hy;have hm:=wayF_zero.1 hy;have:=h.src y hm;exact⟨hn y hm,by omega,by omega⟩
  | succ k ih =>
    intro y hy;obtain⟨z,hz,e⟩:=wayF_succ.1 hy;obtain⟨a,b,c⟩:=ih z hz;have:=h.edge z y a e b (by simp) (fun h=>h);exact⟨(hE _ e).2,by omega,by omega⟩
 have h1:=h.neg x hx;refine(rk_eq ?_).symm
 by_cases h0:0≤out x
 · refine .inr ⟨(out x).toNat,by omega,h.way x hx h0,fun j hj hw=>?_⟩;have:=key j x hw;omega
 · refine .inl ⟨by omega,fun k hk=>?_⟩;have:=key k x hk;omega
theorem Bf.pop {queue:List Nat} (h:Bf n E F (fun _=>False) out (p::queue)):Bf n E F (·=p) out queue∧p<n∧0≤out p∧(∀y,y∈queue→out p≤out y∧out y≤out p+1)∧∀x,x<n→out x≤out p+1:=by
 have hp:=h.pos p (List.mem_cons_self ..);have hs:=List.pairwise_cons.1 h.sorted;have hd:=List.nodup_cons.1 h.nodup;refine⟨⟨h.way,h.neg,h.src,fun x y hx e h0 hq hx2=>h.edge x y hx e h0 (fun hm=>(List.mem_cons.1 hm).elim hx2 hq) (fun h=>h),fun x hx=>h.pos x (List.mem_cons_of_mem _ hx),hs.2,fun x hx h0 hq y hy=>?_,hd.2⟩,hp.1,hp.2,fun y hy=>hs.1 y hy,fun x hx=>?_⟩
 · by_cases e:x=p
   · rw[e];exact(hs.1 y hy).1
   · exact h.done x hx h0 (fun hm=>(List.mem_cons.1 hm).elim e hq) y (List.mem_cons_of_mem _ hy)
 · by_cases h0:0≤out x
   · by_cases hm:x∈p::queue
     · rcases List.mem_cons.1 hm with rfl | hm
       · omega
       · exact(hs.1 x hm).2
     · have:=h.done x hx h0 hm p (List.mem_cons_self ..);omega
   · omega
structure Bq (n:Nat) (E:List (Nat×Nat)) (F:List Nat) (p:Nat) (v:Int) (ns:List Nat) (out:Nat→Int) (queue:List Nat):Prop where
 inv:Bf n E F (·=p) out queue
 cur:out p=v
 here:p<n
 v0:0≤v
 seen:∀y,y∈ns→0≤out y∧out y≤v+1
 rest:∀y,y∈queue→v≤out y∧out y≤v+1
 all:∀x,x<n→out x≤v+1
 off:p∉queue
theorem Bq.start {queue:List Nat} (h:Bf n E F (fun _=>False) out (p::queue)):Bq n E F p (out p) [] out queue:=by
 obtain⟨a,b,c,d,e⟩:=h.pop;exact⟨a,rfl,b,c,fun y hy=>by simp at hy,d,e,(List.nodup_cons.1 h.nodup).1⟩
theorem Bq.skip {v:Int} {ns queue:List Nat} (h:Bq n E F p v ns out queue) (hq:q<n) (h0:0≤out q):Bq n E F p v (ns++[q]) out queue :=
 ⟨h.inv,h.cur,h.here,h.v0,fun y hy=>by
   rcases List.mem_append.1 hy with hy | hy
   · exact h.seen y hy
   · rw[List.mem_singleton.1 hy];exact⟨h0,h.all q hq⟩,h.rest,h.all,h.off⟩
theorem Bq.set {v:Int} {ns queue:List Nat} (h:Bq n E F p v ns out queue) (hq:q<n) (e:(p,q)∈E) (h0:out q<0):Bq n E F p v (ns++[q]) (setI out q (v+1)) (queue++[q]):=by
 have hpq:p≠q:=fun c=>by have:=h.cur;have:=h.v0;rw[c]at *;omega
 have hqq:q∉queue:=fun c=>by have:=(h.inv.pos q c).2;omega
 have ho:∀x,0≤out x→setI out q (v+1) x=out x:=fun x hx=>setI_other fun c=>by rw[c]at hx;omega
 have hv:=h.v0;refine⟨⟨fun x hx hx0=>?_,fun x hx=>?_,fun f hf=>?_,fun x y hx e2 hx0 hxq hx2=>?_,fun x hx=>?_,?_,fun x hx hx0 hxq y hy=>?_,?_⟩,?_,h.here,h.v0,fun y hy=>?_,fun y hy=>?_,fun x hx=>?_,fun c=>?_⟩
 · by_cases c:x=q
   · rw[c,setI_same];have h1:=h.inv.way p h.here (by rw[h.cur];exact hv);rw[h.cur]at h1;have h2:=wayF_succ.2 ⟨p,h1,e⟩
     rwa [show v.toNat+1=(v+1).toNat by omega]at h2
   · rw[setI_other c]at hx0 ⊢;exact h.inv.way x hx hx0
 · by_cases c:x=q
   · rw[c,setI_same];omega
   · rw[setI_other c];exact h.inv.neg x hx
 · have:=h.inv.src f hf;rw[ho f (by omega)];exact this
 · have c:x≠q:=fun c=>hxq (by rw[c];simp);rw[setI_other c]at hx0 ⊢;have h1:=h.inv.edge x y hx e2 hx0 (fun c2=>hxq (List.mem_append_left _ c2)) hx2;rw[ho y h1.1];exact h1
 · rcases List.mem_append.1 hx with hx | hx
   · have:=h.inv.pos x hx;rw[ho x this.2];exact this
   · rw[List.mem_singleton.1 hx,setI_same];exact⟨hq,by omega⟩
 · refine List.pairwise_append.2 ⟨?_,List.pairwise_singleton ..,fun a ha b hb=>?_⟩
   · refine List.Pairwise.imp_of_mem (fun ha hb hab=>?_) h.inv.sorted;rw[ho _ (h.inv.pos _ ha).2,ho _ (h.inv.pos _ hb).2];exact hab
   · rw[List.mem_singleton.1 hb,setI_same,ho a (h.inv.pos a ha).2];have:=h.rest a ha;omega
 · have c:x≠q:=fun c=>hxq (by rw[c];simp);rw[setI_other c]at hx0 ⊢
   rcases List.mem_append.1 hy with hy | hy
   · rw[ho y (h.inv.pos y hy).2];exact h.inv.done x hx hx0 (fun c2=>hxq (List.mem_append_left _ c2)) y hy
   · rw[List.mem_singleton.1 hy,setI_same];exact h.all x hx
 · exact List.nodup_append.2 ⟨h.inv.nodup,by simp,fun a ha b hb c=>hqq (by rw[←List.mem_singleton.1 hb,←c];exact ha)⟩
 · rw[setI_other hpq];exact h.cur
 · rcases List.mem_append.1 hy with hy | hy
   · have:=h.seen y hy;rw[ho y this.1];exact this
   · rw[List.mem_singleton.1 hy,setI_same];omega
 · rcases List.mem_append.1 hy with hy | hy
   · have:=h.rest y hy;rw[ho y (h.inv.pos y hy).2];exact this
   · rw[List.mem_singleton.1 hy,setI_same];omega
 · by_cases c:x=q
   · rw[c,setI_same];omega
   · rw[setI_other c];exact h.all x hx
 · rcases List.mem_append.1 c with c | c
   · exact h.off c
   · exact hpq (List.mem_singleton.1 c)
theorem Bq.end {v:Int} {ns queue:List Nat} (h:Bq n E F p v ns out queue) (hall:∀q,(p,q)∈E→q∈ns):Bf n E F (fun _=>False) out queue :=
 ⟨h.inv.way,h.inv.neg,h.inv.src,fun x y hx e hx0 hxq _=>by
   by_cases c:x=p
   · rw[c]at e ⊢;rw[h.cur];exact h.seen y (hall y e)
   · exact h.inv.edge x y hx e hx0 hxq c,h.inv.pos,h.inv.sorted,h.inv.done,h.inv.nodup⟩
def negs (n:Nat) (out:Nat→Int):Nat:=((List.range n).filter fun x=>decide (out x<0)).length
theorem negs_set (hq:q<n) (h0:out q<0) {v:Int} (hv:0≤v):negs n (setI out q v)+1≤negs n out:=by
 refine filter_lt (fun x _ hx=>?_) ⟨q,List.mem_range.2 hq,?_,decide_eq_true h0⟩
 · have h1:=of_decide_eq_true hx;refine decide_eq_true ?_
   by_cases c:x=q
   · rw[c];exact h0
   · rwa [setI_other c]at h1
 · rw[setI_same];exact decide_eq_false (by omega)
end
end Ci
end
section
namespace Ci
section
variable {E:List (Nat×Nat)} {n p q r:Nat} {V V1 V2:Nat→Prop}
def Vis (E:List (Nat×Nat)) (p:Nat) (V V':Nat→Prop):Prop :=
 (∀x,V x→V' x)∧V' p∧(∀x,V' x→¬V x→Reach E p x)∧∀x y,V' x→¬V x→(x,y)∈E→V' y
def VisL (E:List (Nat×Nat)) (p:Nat) (ns:List Nat) (V V':Nat→Prop):Prop :=
 (∀x,V x→V' x)∧V' p∧(∀x,V' x→¬V x→Reach E p x)∧(∀x y,V' x→¬V x→x≠p→(x,y)∈E→V' y)∧∀y,y∈ns→V' y
theorem Vis.had (h:V p):Vis E p V V:=⟨fun _ h=>h,h,fun _ a b=>absurd a b,fun _ _ a b=>absurd a b⟩
theorem VisL.start (E : List (Nat × Nat)) (p : Nat) (V : Nat → Prop) : VisL E p [] V fun x=>V x∨x=p :=
 ⟨fun _ h => .inl h, .inr rfl, fun x a b => by rcases a with a | rfl
                                               · exact absurd a b
                                               · exact .refl _, fun x y a b c => by rcases a with a | a
                                                                                    · exact absurd a b
                                                                                    · exact absurd a c,fun y hy=>by simp at hy⟩
theorem VisL.step {ns:List Nat} (h:VisL E p ns V V1) (e:(p,q)∈E) (h2:Vis E q V1 V2):VisL E p (ns++[q]) V V2:=by
 obtain⟨a1,a2,a3,a4,a5⟩:=h;obtain⟨b1,b2,b3,b4⟩:=h2;refine⟨fun x hx=>b1 x (a1 x hx),b1 p a2,fun x hx hv=>?_,fun x y hx hv hp he=>?_,fun y hy=>?_⟩
 · by_cases c:V1 x
   · exact a3 x c hv
   · exact(Reach.one e).trans (b3 x hx c)
 · by_cases c:V1 x
   · exact b1 y (a4 x y c hv hp he)
   · exact b4 x y hx c he
 · rcases List.mem_append.1 hy with hy | hy
   · exact b1 y (a5 y hy)
   · rw[List.mem_singleton.1 hy];exact b2
theorem VisL.end {ns:List Nat} (h:VisL E p ns V V1) (hall:∀q,(p,q)∈E→q∈ns):Vis E p V V1:=by
 obtain⟨a1,a2,a3,a4,a5⟩:=h;refine⟨a1,a2,a3,fun x y hx hv he=>?_⟩
 by_cases c:x=p
 · rw[c]at he;exact a5 y (hall y he)
 · exact a4 x y hx hv c he
theorem Vis.reach (h:Vis E p (fun _=>False) V1) (x:Nat):V1 x↔Reach E p x:=by
 obtain⟨_,a2,a3,a4⟩:=h;exact⟨fun hx=>a3 x hx fun h=>h,fun hr=>hr.closed a2 fun a b ha he=>a4 a b ha (fun h=>h) he⟩
open Classical
theorem ord_nil (k:Nat):ord E k []=[]:=by cases k<;>simp[ord,pick]
theorem ord_fuel:∀(k j:Nat) (left:List Nat),Left n E left→left.length≤k→left.length≤j→ord E k left=ord E j left:=by
 intro k
 induction k with
 | zero =>
   intro j left _ hk _;rw[List.length_eq_zero_iff.1 (Nat.le_zero.1 hk),ord_nil,ord_nil]
 | succ k ih =>
   intro j left h hk hj
   by_cases hne:left=[]
   · rw[hne,ord_nil,ord_nil]
   · obtain⟨p,hp⟩:=pick_ex h hne;obtain⟨h1,h2,_⟩:=pick_says h hp;have h3:=List.length_pos_of_mem h1;obtain⟨j,rfl⟩:∃i,j=i+1:=⟨j-1,by omega⟩;have h4:=List.length_erase_of_mem h1
     conv=>lhs;unfold ord;rw[hp]
     conv=>rhs;unfold ord;rw[hp]
     dsimp only;rw[ih j _ (h.erase h1 h2) (by omega) (by omega)]
structure Stage (n:Nat) (E:List (Nat×Nat)) (pre left:List Nat):Prop where
 ok:Left n E left
 all:∀x,x<n→(fst E x∈pre↔fst E x∉left)
 had:∀x,x∈pre→x<n∧fst E x=x∧x∉left
 eq:ords n E=pre++ord E left.length left
theorem leasts_len:(leasts n E).length≤n:=by
 have:=List.length_filter_le (fun p=>decide (fst E p=p)) (List.range n);rw[List.length_range]at this;exact this
theorem Stage.start (hE:InN n E):Stage n E [] (leasts n E) :=
 ⟨Left.start hE,fun x hx=>⟨fun h=>by simp at h,fun h=>absurd (mem_leasts.2 ⟨fst_lt hx,fst_fst⟩) h⟩,fun x hx=>by simp at hx,by
   rw[List.nil_append];exact ord_fuel _ _ _ (Left.start hE) leasts_len (Nat.le_refl _)⟩
theorem Stage.step {pre left:List Nat} (h:Stage n E pre left) (hp:pick E left=some p):Stage n E (pre++[p]) (left.erase p):=by
 obtain⟨h1,h2,_⟩:=pick_says h.ok hp;have hd:=h.ok.nodup;refine⟨h.ok.erase h1 h2,fun x hx=>?_,fun x hx=>?_,?_⟩
 · rw [hd.mem_erase_iff,List.mem_append,h.all x hx,List.mem_singleton];constructor
   · rintro(c | c)
     · exact fun c2=>c c2.2
     · exact fun c2=>c2.1 c
   · intro c
     by_cases c2:fst E x=p
     · exact .inr c2
     · exact .inl fun c3=>c ⟨c2,c3⟩
 · rcases List.mem_append.1 hx with hx | hx
   · obtain⟨a,b,c⟩:=h.had x hx;exact⟨a,b,fun d=>c (List.mem_of_mem_erase d)⟩
   · rw[List.mem_singleton.1 hx];exact⟨(h.ok.own p h1).1,(h.ok.own p h1).2,fun d=>(hd.mem_erase_iff.1 d).1 rfl⟩
 · have h3:=List.length_pos_of_mem h1;have h4:=List.length_erase_of_mem h1;rw[h.eq,List.append_assoc]
   congr 1
   obtain⟨k,hk⟩:∃k,left.length=k+1:=⟨left.length-1,by omega⟩;rw[hk]
   conv=>lhs;unfold ord;rw[hp]
   dsimp only;rw[ord_fuel k _ _ (h.ok.erase h1 h2) (by omega) (Nat.le_refl _)];rfl
theorem Stage.end {pre:List Nat} (h:Stage n E pre []):ords n E=pre:=by
 have:=h.eq
 rwa [ord_nil,List.append_nil]at this
theorem free_iff {left:List Nat} (hE:InN n E):Free E left p↔∀q,q∈comp n E p→∀h,(h,q)∈E→fst E h∈left→fst E h=p:=by
 constructor
 · exact fun h q hq x e hl=>h x q (mem_comp.1 hq).2 e hl
 · exact fun h x q hm e hl=>h q (mem_comp.2 ⟨(hE _ e).2,hm⟩) x e hl
end
end Ci
end
section
open Go.RowKit
namespace Nt
theorem below_drewN (w:World) (k:Nat):Below w.heap.size w (w.drewN k):=⟨rfl,rfl,rfl,Nat.le_refl _,fun _ _=>rfl⟩
theorem below_grow (w:World) (os:Array Obj):Below w.heap.size w (Sort.grow w os) :=
 ⟨rfl,rfl,rfl,by simp[Sort.grow],fun k hk=>by simp[Sort.grow,Array.getElem?_append,hk]⟩
structure Env (w:World):Prop where
 tab:Lib.TabIs Tryz.prog w "internal/strconv.uint64pow10" .u64 Lib.pow10Tab
 syn:∃tp p, w.var? Tryz.prog "strconv.ErrSyntax"=some #[.iface tp p]
 rng:∃tp p, w.var? Tryz.prog "strconv.ErrRange"=some #[.iface tp p]
theorem g_tab:Tryz.prog.globalNamed "internal/strconv.uint64pow10"=some 2 := by kernel_rfl
theorem g_syn:Tryz.prog.globalNamed "strconv.ErrSyntax"=some 0 := by kernel_rfl
theorem g_rng:Tryz.prog.globalNamed "strconv.ErrRange"=some 1 := by kernel_rfl
theorem var_lt {w:World} {n:String} {g:Nat} {cs:Array Value} (hg:Tryz.prog.globalNamed n=some g) (h:w.var? Tryz.prog n=some cs):g<w.heap.size:=by
 unfold World.var? at h;simp only[hg,Option.bind_some]at h
 by_cases hlt:g<w.heap.size
 · exact hlt
 · rw[Array.getElem?_eq_none (by omega)]at h;simp at h
theorem Env.below {w w':World} (h:Env w) (hb:Below w.heap.size w w'):Env w':=by
 obtain⟨h1,⟨t2,p2,h2⟩,t3,p3,h3⟩:=h;exact⟨var?_below hb g_tab (var_lt g_tab h1) h1,⟨t2,p2,var?_below hb g_syn (var_lt g_syn h2) h2⟩,⟨t3,p3,var?_below hb g_rng (var_lt g_rng h3) h3⟩⟩
theorem Env.pos {w:World} (h:Env w):0<w.heap.size:=by have:=var_lt g_tab h.tab;omega
theorem itoa_any (n:Int) (h0:-9223372036854775808≤n) (h1:n≤9223372036854775807) (w:World) (htab:Lib.TabIs Tryz.prog w "internal/strconv.uint64pow10" .u64 Lib.pow10Tab) :
 Calls Tryz.prog 123 #[.int .i64 n] w fun e w'=>e=.returned (.string ⟨(Lib.itoa n).toArray⟩)∧Below w.heap.size w w':=by
 refine(Tryz.strconv_Itoa n h0 h1 w htab).mono ?_;rintro e w' ⟨rfl,k,os,rfl⟩;exact⟨rfl,(below_drewN w k).trans (below_grow (w.drewN k) os)⟩
theorem parseUint_ok (s:ByteArray) (hmax:s.size≤1000000) (u:Nat) (h:Lib.parseUintB 64 s.data.toList=.ok u) (w:World) :
 Calls Tryz.prog 181 #[.string s,.int .i64 10,.int .i64 64] w fun e w'=>e=.returned (.tuple #[.int .u64 u,.nilIface])∧Below w.heap.size w w':=by
 refine(Tryz.strconv_ParseUint_10_at64_ok s (by omega) u h w).mono ?_;rintro e w' ⟨rfl,rfl | rfl⟩
 · exact⟨rfl,Below.refl _ _⟩
 · exact⟨rfl,Go.Joins.below_bytesWorld _ _ _ _ (Nat.le_refl _)⟩
theorem trim_digits (s:ByteArray) (w:World) (hs:s.size≤9223372036854775807) :
 Calls Tryz.prog 179 #[.string s,.string ⟨#[48,49,50,51,52,53,54,55,56,57]⟩] w fun e w'=>e=.returned (.string ⟨(Lib.trimS s.data.toList [48,49,50,51,52,53,54,55,56,57]).toArray⟩)∧Below w.heap.size w w' :=
 Any.strings_Trim_laid Tryz.lays160 (by kernel_rfl) s ⟨#[48,49,50,51,52,53,54,55,56,57]⟩ w hs (by decide) (ascii_of_all (by decide))
theorem writeString_k (B b:Nat) (bs:List Value) (s:ByteArray) (w:World) (h:Lib.IsBuilderF 189 5 B b bs w) (hlen:bs.length+s.size≤140737488355328) (hBw:B≤w.heap.size) :
 Calls Tryz.prog 193 #[.pointer (some ⟨b,0,none⟩),.string s] w fun e w'=>e=.returned (.tuple #[.int .i64 s.size,.nilIface])∧(Lib.IsBuilderF 189 5 B b (bs++Lib.strCells s) w'∧Below B w w'∧Lib.OthersKept 5 (some b) w w'):=by
 refine(Any.Builder_WriteString_k { Tryz.lays105 with } Tryz.Builder_Extra_105 B b bs s w h hlen hBw).mono ?_;rintro e w' ⟨rfl,h1,h2⟩;exact⟨rfl,.inr h1,h2⟩
end Nt
end
section
open Go.RowKit
namespace Nt
def lv:List Nat→Nat
 | []=>0
 | x::xs=>x+1000000000*lv xs
def lim (xs:List Nat) (i:Nat):Nat:=xs.getD i 0
def slen:Value→Nat
 | .slice _ n _=>n
 | _=>0
def Canon (xs:List Nat):Prop:=(∀x∈xs,x<1000000000)∧xs.getLast?≠some 0
theorem lv_append (xs ys:List Nat):lv (xs++ys)=lv xs+1000000000^xs.length*lv ys:=by
 induction xs with
 | nil=>simp[lv]
 | cons x xs ih =>
   simp only[List.cons_append,lv,ih,List.length_cons,Nat.pow_succ,Nat.mul_add];rw[Nat.mul_comm (1000000000^xs.length) 1000000000,Nat.mul_assoc];omega
def Sl (w:World) (v:Value) (xs:List Nat):Prop :=
 ∃ a cap,v=.slice a xs.length cap∧(a=none→xs=[]∧cap=0) ∧
  ∀ad,a=some ad→ad.spot=none∧ad.block<w.heap.size∧xs.length≤cap∧∀i,i<xs.length→w.cell? ⟨ad.block,ad.off+i,none⟩=some (.int .u64 (lim xs i))
theorem Sl.shape {w:World} {v:Value} {xs:List Nat} (h:Sl w v xs) :
 (xs=[]∧v=.slice none 0 0) ∨
 ∃b off cap,v=.slice (some ⟨b,off,none⟩) xs.length cap∧b<w.heap.size∧xs.length≤cap∧∀i,i<xs.length→w.cell? ⟨b,off+i,none⟩=some (.int .u64 (lim xs i)):=by
 obtain⟨a,cap,rfl,hn,hs⟩:=h
 cases a with
 | none=>exact .inl ⟨(hn rfl).1,by rw[(hn rfl).1,(hn rfl).2];rfl⟩
 | some ad =>
   obtain⟨hsp,hb,hcap,hc⟩:=hs ad rfl;obtain⟨b,off,sp⟩:=ad
   cases hsp
   exact .inr ⟨b,off,cap,rfl,hb,hcap,hc⟩
theorem Sl.addr {w:World} {v:Value} {xs:List Nat} (h:Sl w v xs) :
 ∃a cap,v=.slice a xs.length cap∧(xs≠[]→∃b off,a=some ⟨b,off,none⟩∧b<w.heap.size∧∀i,i<xs.length→w.cell? ⟨b,off+i,none⟩=some (.int .u64 (lim xs i))):=by
 obtain⟨a,cap,rfl,hn,hs⟩:=h;refine⟨a,cap,rfl,fun hne=>?_⟩
 cases a with
 | none=>exact absurd (hn rfl).1 hne
 | some ad =>
   obtain⟨hsp,hb,hcap,hc⟩:=hs ad rfl;obtain⟨b,off,sp⟩:=ad
   cases hsp
   exact⟨b,off,rfl,hb,hc⟩
theorem Sl.mk {w:World} {b off cap:Nat} {xs:List Nat} (hb:b<w.heap.size) (hcap:xs.length≤cap)
 (hc:∀i,i<xs.length→w.cell? ⟨b,off+i,none⟩=some (.int .u64 (lim xs i))):Sl w (.slice (some ⟨b,off,none⟩) xs.length cap) xs :=
 ⟨some ⟨b,off,none⟩,cap,rfl,(fun h=>by cases h),(fun ad h=>by cases h;exact⟨rfl,hb,hcap,hc⟩)⟩
theorem Sl.nil (w:World):Sl w (.slice none 0 0) []:=⟨none,0,rfl,(fun _=>⟨rfl,rfl⟩),(fun ad h=>by cases h)⟩
theorem Sl.below {w w':World} {v:Value} {xs:List Nat} (h:Sl w v xs) (hb:Below w.heap.size w w'):Sl w' v xs:=by
 obtain⟨a,cap,rfl,hn,hs⟩:=h;refine⟨a,cap,rfl,hn,fun ad e=>?_⟩;obtain⟨h1,h2,h3,h4⟩:=hs ad e;exact⟨h1,Nat.lt_of_lt_of_le h2 hb.size,h3,fun i hi=>(hb.cell (p:=⟨ad.block,ad.off+i,none⟩) h2).trans (h4 i hi)⟩
def From (B:Nat):Value→Prop
 | .slice (some ad) _ _=>B≤ad.block
 | _=>True
def Trimmed (xs:List Nat) (k:Nat):Prop:=k≤xs.length∧(∀j,k≤j→j<xs.length→lim xs j=0)∧(0<k→lim xs (k-1)≠0)
theorem lv_zeros (xs:List Nat) (h:∀j,j<xs.length→lim xs j=0):lv xs=0:=by
 induction xs with
 | nil=>rfl
 | cons x xs ih =>
   have h0:=h 0 (by simp);have:=ih (fun j hj=>by have:=h (j+1) (by simp;omega);simpa [lim] using this);simp[lim]at h0;simp[lv,h0,this]
theorem lim_take (xs:List Nat) (k i:Nat) (h:i<k):lim (xs.take k) i=lim xs i:=by
 simp[lim,h]
theorem lim_drop (xs:List Nat) (k i:Nat):lim (xs.drop k) i=lim xs (k+i):=by
 simp[lim,List.getElem?_drop]
theorem lim_lt (xs:List Nat) (i:Nat) (h:i<xs.length):lim xs i=xs[i]:=by
 simp[lim,h]
theorem Trimmed.lv {xs:List Nat} {k:Nat} (h:Trimmed xs k):lv (xs.take k)=lv xs:=by
 obtain⟨h1,h2,_⟩:=h;have e:xs=xs.take k++xs.drop k:=(List.take_append_drop k xs).symm;have:Nt.lv (xs.drop k)=0:=lv_zeros _ (fun j hj=>by rw[lim_drop];simp at hj;exact h2 _ (by omega) (by omega))
 conv=>rhs;rw[e]
 rw[lv_append,this];simp
theorem Trimmed.canon {xs:List Nat} {k:Nat} (h:Trimmed xs k) (hr:∀x∈xs,x<1000000000):Canon (xs.take k):=by
 obtain⟨h1,h2,h3⟩:=h;refine⟨fun x hx=>hr x (List.mem_of_mem_take hx),?_⟩;rw[List.getLast?_eq_getElem?]
 by_cases hk:k=0
 · subst hk;simp
 · have hlen:(xs.take k).length=k:=by simp;omega
   rw[hlen];have:=h3 (by omega);rw[lim_lt _ _ (by omega)]at this;rw[List.getElem?_take,if_pos (by omega),List.getElem?_eq_getElem (by omega)];intro e;exact this (Option.some.inj e)
def Row (t:TypeId) (w:World) (g:Nat) (zs:List Nat):Prop :=
 w.heap[g]? = some (.cells (zs.map fun x:Nat=>Value.int .u64 (x:Int)).toArray t (0,0))
theorem Row.lt {t:TypeId} {w:World} {g:Nat} {zs:List Nat} (h:Row t w g zs):g<w.heap.size :=
 (Array.getElem?_eq_some_iff.1 h).1
theorem Row.cell {t:TypeId} {w:World} {g:Nat} {zs:List Nat} (h:Row t w g zs) {i:Nat} (hi:i<zs.length) :
 w.cell? ⟨g,i,none⟩=some (.int .u64 (lim zs i)):=by
 unfold Row at h;simp only[World.cell?,h];simp[lim,hi]
theorem Row.frozen {t:TypeId} {w:World} {g:Nat} {zs:List Nat} (h:Row t w g zs) (i:Nat):w.frozen? ⟨g,i,none⟩=false:=by
 unfold Row at h;simp[World.frozen?,h]
theorem Row.set {t:TypeId} {w:World} {g:Nat} {zs:List Nat} (h:Row t w g zs) (i:Nat) (y:Nat) :
 Row t (w.setCell ⟨g,i,none⟩ (.int .u64 (y:Int))) g (zs.set i y):=by
 unfold Row at h ⊢;simp only[World.setCell,Array.getElem?_modify,h];simp[List.map_set]
theorem madeZero (n:Nat):madeCells #[.int .u64 0] n=((List.replicate n 0).map fun x:Nat=>Value.int .u64 (x:Int)).toArray:=by
 unfold madeCells;apply Array.ext
 · simp
 · intro i h1 h2;have e:i%1=0:=Nat.mod_one i;simp[e]
theorem Row.made0 (t:TypeId) (w:World) (n:Nat):Row t (w.alloc (.cells (madeCells #[.int .u64 0] n) t)) w.heap.size (List.replicate n 0):=by
 unfold Row;rw[heap_alloc_new,madeZero]
theorem Row.sl {t:TypeId} {w:World} {g:Nat} {zs:List Nat} (h:Row t w g zs):Sl w (.slice (some ⟨g,0,none⟩) zs.length zs.length) zs :=
 Sl.mk h.lt (Nat.le_refl _) (fun i hi=>by rw[Nat.zero_add];exact h.cell hi)
def lo (xs:List Nat) (k:Nat):Nat:=lv (xs.take k)
theorem lim_ge (xs:List Nat) (i:Nat) (h:xs.length≤i):lim xs i=0:=by
 simp[lim,h]
theorem lo_succ (xs:List Nat) (k:Nat):lo xs (k+1)=lo xs k+1000000000^k*lim xs k:=by
 unfold lo
 by_cases h:k<xs.length
 · rw[List.take_succ_eq_append_getElem h,lv_append];simp only[lv,List.length_take,Nat.min_eq_left (Nat.le_of_lt h),lim_lt _ _ h,Nat.mul_zero,Nat.add_zero]
 · rw[List.take_of_length_le (by omega),List.take_of_length_le (by omega),lim_ge _ _ (by omega)];simp
theorem lo_zero (xs:List Nat):lo xs 0=0:=by simp[lo,lv]
theorem lo_all (xs:List Nat) (k:Nat) (h:xs.length≤k):lo xs k=lv xs:=by
 unfold lo;rw[List.take_of_length_le h]
theorem lo_set (xs:List Nat) (k y:Nat):lo (xs.set k y) k=lo xs k:=by
 unfold lo;rw[List.take_set_of_le (Nat.le_refl _)]
theorem lim_set (xs:List Nat) (k y:Nat) (h:k<xs.length):lim (xs.set k y) k=y:=by
 simp[lim,h]
theorem lim_set_ne (xs:List Nat) (k j y:Nat) (h:j≠k):lim (xs.set k y) j=lim xs j:=by
 simp[lim,Ne.symm h]
theorem lim_zeros (n j:Nat):lim (List.replicate n 0) j=0:=by
 by_cases h:j<n
 · simp[lim,h]
 · exact lim_ge _ _ (by simp;omega)
def InR (xs:List Nat):Prop:=∀x∈xs,x<1000000000
theorem InR.lim {xs:List Nat} (h:InR xs) (i:Nat):lim xs i<1000000000:=by
 by_cases hi:i<xs.length
 · rw[lim_lt _ _ hi];exact h _ (List.getElem_mem hi)
 · rw[lim_ge _ _ (by omega)];omega
theorem InR.set {xs:List Nat} (h:InR xs) (k y:Nat) (hy:y<1000000000):InR (xs.set k y):=by
 intro x hx
 rcases List.mem_or_eq_of_mem_set hx with h' | rfl
 · exact h x h'
 · exact hy
theorem InR.zeros (n:Nat):InR (List.replicate n 0):=by
 intro x hx;rw[List.eq_of_mem_replicate hx];omega
theorem lv_lt {xs:List Nat} (h:InR xs):lv xs<1000000000^xs.length:=by
 induction xs with
 | nil=>simp[lv]
 | cons x xs ih =>
   have h1:=h x (by simp);have h2:=ih (fun y hy=>h y (by simp[hy]));simp only[lv,List.length_cons,Nat.pow_succ];generalize 1000000000^xs.length=B at *;omega
theorem lo_lt {xs:List Nat} (h:InR xs) (k:Nat):lo xs k<1000000000^k:=by
 have:=lv_lt (xs:=xs.take k) (fun x hx=>h x (List.mem_of_mem_take hx));unfold lo;have h2:(xs.take k).length≤k:=by simp;omega
 exact Nat.lt_of_lt_of_le this (Nat.pow_le_pow_right (by omega) h2)
theorem Canon.ge {xs:List Nat} (h:Canon xs) (h0:xs≠[]):1000000000^(xs.length-1)≤lv xs:=by
 obtain⟨ys,y,rfl⟩:∃ys y,xs=ys++[y]:=⟨xs.dropLast,xs.getLast h0,(List.dropLast_concat_getLast h0).symm⟩;have hy:y≠0:=by have:=h.2;simp at this;exact this
 rw[lv_append];simp only[List.length_append,List.length_cons,List.length_nil,lv];have:1000000000^ys.length*1≤1000000000^ys.length*(y+1000000000*0):=Nat.mul_le_mul_left _ (by omega);simp at this ⊢;omega
theorem Canon.len_le {xs:List Nat} (h:Canon xs) {k:Nat} (hk:lv xs<1000000000^k):xs.length≤k:=by
 by_cases h0:xs=[]
 · simp[h0]
 · have:=h.ge h0;have h1:1000000000^(xs.length-1)<1000000000^k:=by omega
   have:=(Nat.pow_lt_pow_iff_right (by omega:1<1000000000)).1 h1;omega
theorem Canon.len_mono {xs ys:List Nat} (h:Canon xs) (hy:Canon ys) (hle:lv xs≤lv ys):xs.length≤ys.length :=
 h.len_le (Nat.lt_of_le_of_lt hle (lv_lt hy.1))
def lvals (xs:List Nat):List Value:=xs.map fun x:Nat=>Value.int .u64 (x:Int)
def Own (t:TypeId) (B:Nat) (w:World) (v:Value) (n:Nat) (xs:List Nat):Prop:=w.ownsRow B t 1 v n (lvals xs)
theorem lvals_snoc (xs:List Nat) (x:Nat):lvals xs++[Value.int .u64 (x:Int)]=lvals (xs++[x]):=by simp[lvals]
theorem Own.len {t:TypeId} {B:Nat} {w:World} {v:Value} {n:Nat} {xs:List Nat} (h:Own t B w v n xs):xs.length=n:=by
 have:=h.1
 simpa [lvals] using this
theorem Own.sl {t:TypeId} {B:Nat} {w:World} {v:Value} {n:Nat} {xs:List Nat} (h:Own t B w v n xs):Sl w v xs:=by
 have hl:=h.len;subst hl
 rcases h.2 with⟨rfl,h0⟩ | ⟨g,cap,cur,rfl,hg,hh,hn,hcm,hcs,ht⟩
 · have:xs=[]:=List.length_eq_zero_iff.1 h0;subst this;exact Sl.nil _
 · refine Sl.mk (Array.getElem?_eq_some_iff.1 hh).1 hn (fun i hi=>?_);have:=World.ownsRow.cellAt h i (by omega);rw[Nat.zero_add,this];simp[lvals,lim,hi]
theorem Own.from {t:TypeId} {B:Nat} {w:World} {v:Value} {n:Nat} {xs:List Nat} (h:Own t B w v n xs):From B v:=by
 rcases h.2 with⟨rfl,h0⟩ | ⟨g,cap,cur,rfl,hg,_⟩
 · trivial
 · exact hg
theorem Own.below {t:TypeId} {B:Nat} {w w':World} {v:Value} {n:Nat} {xs:List Nat} (h:Own t B w v n xs) (hb:Below w.heap.size w w'):Own t B w' v n xs:=by
 obtain⟨h1,h2⟩:=h;refine⟨h1,?_⟩
 rcases h2 with h2 | ⟨g,cap,cur,hv,hg,hh,r⟩
 · exact Or.inl h2
 · exact Or.inr ⟨g,cap,cur,hv,hg,by rw[hb.block g (Array.getElem?_eq_some_iff.1 hh).1];exact hh,r⟩
theorem one_new (w:World) (v:Value) (t:TypeId):∀j u,[v][j]? = some u→(w.alloc (.cells #[v] t)).cell? (Addr.add ⟨w.heap.size,0,none⟩ j)=some u:=by
 intro j u hj
 match j,hj with
 | 0,hj =>
   simp at hj;subst hj;simp[Addr.add]
theorem one_cell (k:IntKind) (x:Int):∀u∈[Value.int k x],u.oneCell'=true:=by
 intro u hu;simp at hu;subst hu;rfl
def Small (n:Nat):Prop:=n<1000000000^200
theorem lv_set (zs:List Nat) (p y:Nat) (h:p<zs.length):lv (zs.set p y)+1000000000^p*lim zs p=lv zs+1000000000^p*y:=by
 induction zs generalizing p with
 | nil=>simp at h
 | cons z zs ih =>
   cases p with
   | zero=>simp[lv,lim];omega
   | succ p =>
     have:=ih p (by simpa using h);have e:lim (z::zs) (p+1)=lim zs p:=by simp[lim]
     rw[e];simp only[List.set_cons_succ,lv,Nat.pow_succ];rw[Nat.mul_comm (1000000000^p) 1000000000,Nat.mul_assoc,Nat.mul_assoc];omega
def Num (w:World) (v:Value) (n:Nat):Prop:=∃xs,Canon xs∧lv xs=n∧Sl w v xs
theorem Num.below {w w':World} {v:Value} {n:Nat} (h:Num w v n) (hb:Below w.heap.size w w'):Num w' v n:=by
 obtain⟨xs,h1,h2,h3⟩:=h;exact⟨xs,h1,h2,h3.below hb⟩
end Nt
end
section
open Go.RowKit
namespace Nt
def dval (l:List UInt8):Nat:=l.foldl (fun a c=>a*10+(c.toNat-48)) 0
def isDig (c:UInt8):Prop:=48≤c.toNat∧c.toNat≤57
theorem foldl_dval (l:List UInt8) (a:Nat):l.foldl (fun a c=>a*10+(c.toNat-48)) a=a*10^l.length+dval l:=by
 induction l generalizing a with
 | nil=>simp[dval]
 | cons c l ih =>
   simp only[List.foldl_cons,List.length_cons,dval];rw[ih,ih (0*10+(c.toNat-48)),Nat.pow_succ,Nat.zero_mul,Nat.zero_add,Nat.add_mul,Nat.mul_assoc,Nat.mul_comm 10];omega
theorem dval_append (l m:List UInt8):dval (l++m)=dval l*10^m.length+dval m:=by
 unfold dval;rw[List.foldl_append,foldl_dval];rfl
theorem dval_nil:dval []=0:=rfl
theorem dval_cons (c:UInt8) (l:List UInt8):dval (c::l)=(c.toNat-48)*10^l.length+dval l:=by
 rw[show c::l=[c]++l from rfl,dval_append];simp[dval]
theorem dval_lt {l:List UInt8} (h:∀c∈l,isDig c):dval l<10^l.length:=by
 induction l with
 | nil=>simp[dval]
 | cons c l ih =>
   have h1:=h c (by simp);have h2:=ih (fun d hd=>h d (by simp[hd]));rw[dval_cons,List.length_cons,Nat.pow_succ];have h3:(c.toNat-48)*10^l.length≤9*10^l.length:=Nat.mul_le_mul_right _ (by have:=h1.2;omega);omega
theorem parse_chunk {l:List UInt8} (h:∀c∈l,isDig c) (h0:l≠[]) (hl:l.length≤9):Lib.parseUintB 64 l=.ok (dval l):=by
 have key:∀(m:List UInt8) (a:Nat),(∀c∈m,isDig c)→a*10^m.length+10^m.length≤1000000000→Lib.parseUintM (2^64-1) a m=.ok (a*10^m.length+dval m):=by
  intro m
  induction m with
  | nil=>intro a _ _;simp[Lib.parseUintM,dval]
  | cons c m ih =>
    intro a hm hb;have h1:=hm c (by simp);rw[List.length_cons,Nat.pow_succ]at hb;have hp:0<10^m.length:=Nat.pow_pos (by omega)
    have ha:a*10^m.length≤100000000:=by
     rw[←Nat.mul_assoc]at hb;omega
    have ha':a≤100000000:=Nat.le_trans (Nat.le_mul_of_pos_right a hp) ha;have hc:=h1.2;unfold Lib.parseUintM;rw[if_pos (show 48≤c.toNat∧c.toNat≤57 from h1),if_neg (by omega),if_neg (by omega),ih _ (fun d hd=>hm d (by simp[hd])) ?_]
    · rw[dval_cons,List.length_cons,Nat.pow_succ,Nat.add_mul,Nat.mul_assoc,Nat.mul_comm 10]
      congr 1;omega
    · have h3:(c.toNat-48)*10^m.length≤9*10^m.length:=Nat.mul_le_mul_right _ (by omega);have h4:a*(10^m.length*10)=a*10*10^m.length:=by rw[Nat.mul_comm (10^m.length),Nat.mul_assoc]
      rw[Nat.add_mul];omega
 unfold Lib.parseUintB;rw[if_neg h0,key l 0 h ?_]
 · rw[Nat.zero_mul,Nat.zero_add]
 · rw[Nat.zero_mul,Nat.zero_add];exact Nat.le_trans (Nat.pow_le_pow_right (by omega) hl) (by decide)
theorem toNat_dig (d:Nat) (h:d<10):(UInt8.ofNat (48+d)).toNat=48+d:=by
 rw[UInt8.toNat_ofNat'];omega
theorem decDigits_dig (u:Nat):∀c∈Lib.decDigits u,isDig c:=by
 induction u using Nat.strongRecOn with
 | _ u ih =>
   rw[Lib.decDigits]
   split
   · intro c hc;simp only[List.mem_cons,List.not_mem_nil,or_false]at hc;subst hc;unfold isDig;rw[toNat_dig _ (by omega)];omega
   · intro c hc
     rcases List.mem_append.1 hc with h | h
     · exact ih (u/10) (by omega) c h
     · simp only[List.mem_cons,List.not_mem_nil,or_false]at h;subst h;unfold isDig;rw[toNat_dig _ (by omega)];omega
theorem dval_decDigits (u:Nat):dval (Lib.decDigits u)=u:=by
 induction u using Nat.strongRecOn with
 | _ u ih =>
   rw[Lib.decDigits]
   split
   · simp only[dval,List.foldl_cons,List.foldl_nil,toNat_dig u (by omega)];omega
   · rw[dval_append,ih (u/10) (by omega)];simp only[List.length_cons,List.length_nil,dval,List.foldl_cons,List.foldl_nil,toNat_dig _ (Nat.mod_lt u (show 0<10 by omega))];omega
theorem decDigits_ne (u:Nat):Lib.decDigits u≠[]:=by
 rw[Lib.decDigits]
 split<;>simp
theorem head_append (l m:List UInt8) (h:l≠[]):(l++m).head? = l.head?:=by
 cases l with
 | nil=>exact absurd rfl h
 | cons a l=>rfl
theorem decDigits_head (u:Nat) (h:0<u):(Lib.decDigits u).head?≠some 48:=by
 induction u using Nat.strongRecOn with
 | _ u ih =>
   rw[Lib.decDigits]
   split
   · intro e;simp only[List.head?_cons,Option.some.injEq]at e;have:=congrArg UInt8.toNat e;rw[toNat_dig _ (by omega)]at this;simp at this;omega
   · rw[head_append _ _ (decDigits_ne _)];exact ih (u/10) (by omega) (by omega)
theorem decDigits_dval:∀(n:Nat) (l:List UInt8),l.length=n→l≠[]→(∀c∈l,isDig c)→(l.length=1∨l.head?≠some 48)→Lib.decDigits (dval l)=l:=by
 intro n
 induction n with
 | zero=>intro l hl h0;exact absurd (List.length_eq_zero_iff.1 hl) h0
 | succ n ih =>
   intro l hl h0 hd hh;obtain⟨m,c,rfl⟩:∃m c,l=m++[c]:=⟨l.dropLast,l.getLast h0,(List.dropLast_concat_getLast h0).symm⟩;have hc:=hd c (by simp)
   have hcn:UInt8.ofNat (48+(c.toNat-48))=c:=by
    apply UInt8.toNat_inj.1;rw[toNat_dig _ (by have:=hc.2;omega)];have:=hc.1;omega
   have hv:dval (m++[c])=dval m*10+(c.toNat-48):=by rw[dval_append];simp[dval]
   have hc9:c.toNat-48<10:=by have:=hc.2;omega
   cases m with
   | nil =>
     rw[hv];simp only[dval_nil,Nat.zero_mul,Nat.zero_add,List.nil_append];rw[Lib.decDigits_one hc9,hcn]
   | cons a m =>
     have hlen:(a::m).length=n:=by simp at hl ⊢;omega
     have hhead:a≠48:=by
      rcases hh with h | h
      · simp at h
      · simpa using h
     have ha:=hd a (by simp)
     have hpos:0<dval (a::m):=by
      rw[dval_cons]
      have h1:1≤a.toNat-48:=by
       have:a.toNat≠48:=fun e=>hhead (UInt8.toNat_inj.1 e);have:=ha.1;omega
      have h2:1*10^m.length≤(a.toNat-48)*10^m.length:=Nat.mul_le_mul_right _ h1;have h3:0<10^m.length:=Nat.pow_pos (by omega);omega
     have hi:=ih (a::m) hlen (by simp) (fun d h=>hd d (by simp at h ⊢;rcases h with h | h<;>simp[h])) (.inr (by simpa using hhead));rw[hv,Lib.decDigits,dif_neg (by omega),show (dval (a::m)*10+(c.toNat-48))/10=dval (a::m) by omega,show (dval (a::m)*10+(c.toNat-48))%10=c.toNat-48 by omega,hi,hcn]
theorem dval_zeros (n:Nat) (l:List UInt8):dval (List.replicate n 48++l)=dval l:=by
 induction n with
 | zero=>simp
 | succ n ih=>rw[List.replicate_succ,List.cons_append,dval_cons,ih];simp
theorem decDigits_len {u k:Nat} (h:u<10^k) (hk:0<k):(Lib.decDigits u).length≤k:=by
 induction k generalizing u with
 | zero=>omega
 | succ k ih =>
   rw[Lib.decDigits]
   split
   · simp
   · rename_i h10;have hu:u/10<10^k:=by rw[Nat.pow_succ]at h;omega
     have hk0:0<k:=by
      rcases Nat.eq_zero_or_pos k with e | e
      · subst e;simp at h;omega
      · exact e
     have:=ih hu hk0;simp;omega
theorem decDigits_len_iff (u k:Nat) (hk:0<k):(Lib.decDigits u).length≤k↔u<10^k:=by
 constructor
 · intro h;have h1:=dval_lt (decDigits_dig u);rw[dval_decDigits]at h1;exact Nat.lt_of_lt_of_le h1 (Nat.pow_le_pow_right (by omega) h)
 · intro h;exact decDigits_len h hk
def pad9 (x:Nat):List UInt8:=List.replicate (9-(Lib.decDigits x).length) 48++Lib.decDigits x
theorem pad9_len {x:Nat} (h:x<1000000000):(pad9 x).length=9:=by
 have:=decDigits_len (k:=9) (u:=x) (by simpa using h) (by omega);simp[pad9];omega
theorem decDigits_limb (u x:Nat) (hu:0<u) (hx:x<1000000000):Lib.decDigits (u*1000000000+x)=Lib.decDigits u++pad9 x:=by
 have hl:=pad9_len hx
 have hv:dval (Lib.decDigits u++pad9 x)=u*1000000000+x:=by
  rw[dval_append,hl,dval_decDigits,pad9,dval_zeros,dval_decDigits]
 rw[←hv];refine decDigits_dval _ _ rfl (by simp[decDigits_ne]) ?_ (.inr ?_)
 · intro c hc
   rcases List.mem_append.1 hc with h | h
   · exact decDigits_dig u c h
   · rcases List.mem_append.1 h with h | h
     · rw[List.eq_of_mem_replicate h];exact⟨by decide,by decide⟩
     · exact decDigits_dig x c h
 · rw[head_append _ _ (decDigits_ne _)];exact decDigits_head u hu
end Nt
end
section
open Go.RowKit Go.Shelf
namespace Nt
def isNL (l:List UInt8):Bool:=!l.isEmpty&&(decide (l.length≤300)&&(l.all (fun c=>decide (48≤c.toNat∧c.toNat≤57))&&(decide (l.length=1)||decide (l.head?≠some 48))))
def isN (s:ByteArray):Bool:=isNL s.data.toList
def num (n:Nat):ByteArray:=⟨(Lib.decDigits n).toArray⟩
@[irreducible] def mxd:Nat:=300
theorem mxd_eq:mxd=300:=by unfold mxd;rfl
def Lim:Nat:=10^mxd
def digs:List UInt8:=[48,49,50,51,52,53,54,55,56,57]
theorem isNL_iff (l:List UInt8):isNL l=true↔l≠[]∧l.length≤300∧(∀c∈l,isDig c)∧(l.length=1∨l.head?≠some 48):=by
 unfold isNL isDig;simp
theorem isN_num {n:Nat} (h:n<Lim):isN (num n)=true:=by
 unfold isN num;rw[isNL_iff];refine⟨decDigits_ne n,by rw[←mxd_eq];exact decDigits_len (k:=mxd) h (by rw[mxd_eq];omega),decDigits_dig n,?_⟩
 rcases Nat.eq_zero_or_pos n with e | e
 · subst e;left;rw[Lib.decDigits_one (by omega)];rfl
 · right;exact decDigits_head n e
theorem num_of_isN {s:ByteArray} (h:isN s=true):∃n,n<Lim∧s=num n:=by
 unfold isN at h;rw[isNL_iff]at h;obtain⟨h1,h2,h3,h4⟩:=h;refine⟨dval s.data.toList,?_,?_⟩
 · exact Nat.lt_of_lt_of_le (dval_lt h3) (Nat.pow_le_pow_right (by omega) (by rw[mxd_eq];exact h2))
 · unfold num;rw[decDigits_dval _ _ rfl h1 h3 h4]
theorem num_inj {n m:Nat} (h:num n=num m):n=m:=by
 have:=congrArg (fun s:ByteArray=>dval s.data.toList) h
 simpa [num,dval_decDigits] using this
theorem isN_num_iff (n:Nat):isN (num n)=true↔n<Lim:=by
 constructor
 · intro h;obtain⟨m,hm,e⟩:=num_of_isN h;rw[num_inj e];exact hm
 · exact isN_num
theorem trim_all (l:List UInt8):Lib.trimS l digs=[]↔∀c∈l,isDig c:=by
 have hd:∀c:UInt8,digs.contains c=true↔isDig c:=by
  intro c;unfold digs isDig;simp only[List.contains_eq_mem,List.mem_cons,List.not_mem_nil,or_false,decide_eq_true_eq,←UInt8.toNat_inj];simp only[UInt8.reduceToNat];omega
 unfold Lib.trimS Lib.trimLeftS Lib.trimRightS;constructor
 · intro h
   have key:∀m:List UInt8,m.dropWhile (digs.contains ·)=[]→∀c∈m,isDig c:=by
    intro m
    induction m with
    | nil=>intro _ c hc;exact absurd hc (by simp)
    | cons a m ih =>
      intro h c hc;rw[List.dropWhile_cons]at h
      split at h
      · rename_i ha
        rcases List.mem_cons.1 hc with e | e
        · rw[e];exact(hd a).1 ha
        · exact ih h c e
      · cases h
   by_cases hr:(l.reverse.dropWhile (digs.contains ·))=[]
   · intro c hc;exact key _ hr c (by simpa using hc)
   · exfalso;have hne:(l.reverse.dropWhile (digs.contains ·)).reverse≠[]:=by simpa using hr
     have h1:=key _ h
     obtain ⟨a,m,e⟩:∃a m,l.reverse.dropWhile (digs.contains ·)=a::m:=by
      cases hh:l.reverse.dropWhile (digs.contains ·) with
      | nil=>exact absurd hh hr
      | cons a m=>exact⟨a,m,rfl⟩
     have h2:=h1 a (by rw[e];simp)
     have h3:digs.contains a=false:=by
      have:=List.head?_dropWhile_not (digs.contains ·) l.reverse;rw[e]at this
      simpa using this
     rw[(hd a).2 h2]at h3
     cases h3
 · intro h
   have h1:l.reverse.dropWhile (digs.contains ·)=[]:=by
    have key:∀m:List UInt8,(∀c∈m,isDig c)→m.dropWhile (digs.contains ·)=[]:=by
     intro m
     induction m with
     | nil=>intro _;rfl
     | cons a m ih =>
       intro h;rw[List.dropWhile_cons,if_pos ((hd a).2 (h a (by simp)))];exact ih (fun c hc=>h c (by simp[hc]))
    exact key _ (fun c hc=>h c (by simpa using hc))
   rw[h1];rfl
theorem isN_parts (s:ByteArray):isN s=true↔s.toList.isEmpty=false∧s.size≤300∧Lib.trimS s.data.toList [48,49,50,51,52,53,54,55,56,57]=[]∧(s.size=1∨∀h:0<s.size,s[0].toNat≠48):=by
 unfold isN;rw[isNL_iff,show ([48,49,50,51,52,53,54,55,56,57]:List UInt8)=digs from rfl,trim_all,Lib.toList_data];have hl:s.data.toList.length=s.size:=by simp
 rw[hl];constructor
 · rintro ⟨h1,h2,h3,h4⟩;refine⟨by simpa using h1,h2,h3,?_⟩
   rcases h4 with h4 | h4
   · exact .inl h4
   · right;intro h e;apply h4;rw[List.head?_eq_getElem?,List.getElem?_eq_getElem (by omega)];refine congrArg some (UInt8.toNat_inj.1 ?_);rw[Array.getElem_toList];exact e
 · rintro ⟨h1,h2,h3,h4⟩;refine⟨by simpa using h1,h2,h3,?_⟩
   rcases h4 with h4 | h4
   · exact .inl h4
   · right;intro e
     have h0:0<s.data.toList.length:=by
      rcases Nat.eq_zero_or_pos s.data.toList.length with h | h
      · rw[List.length_eq_zero_iff.1 h]at e;simp at e
      · exact h
     rw[List.head?_eq_getElem?,List.getElem?_eq_getElem h0]at e;refine h4 (by omega) ?_;have:=congrArg UInt8.toNat (Option.some.inj e);rw[Array.getElem_toList]at this;exact this
theorem ret_bool {a b:Bool} (h:a=b):Ending.returned (.bool a)=.returned (.bool b):=by rw[h]
theorem is_any (s:ByteArray) (w:World) (hs:s.size≤9223372036854775807) :
 Calls Tryz.prog 155 #[.string s] w fun e w'=>e=.returned (.bool (isN s))∧Below w.heap.size w w':=by
 have hcon:=trim_digits s w hs;have HP:=Lib.hid (isN_parts s)
 have hfalse:¬(s.toList.isEmpty=false∧s.size≤300∧Lib.trimS s.data.toList [48,49,50,51,52,53,54,55,56,57]=[]∧(s.size=1∨∀h:0<s.size,s[0].toNat≠48))→isN s=false:=fun h=>by
  cases hh:isN s with
  | false=>rfl
  | true=>exact absurd (HP.out.1 hh) h
 have HF:=Lib.hid hfalse;clear hfalse;generalize isN s=r at HP HF ⊢
 cases h0:s.toList.isEmpty with
 | true =>
   obtain rfl:r=false:=HF.out (by rw[h0];simp);go_enter Tryz.func155,Tryz.ntmps155;go_wp2;go_ret;exact⟨ret_bool (by simp),Below.refl _ _⟩
 | false =>
   have h0':0<s.size:=by
    rcases Nat.eq_zero_or_pos s.size with h | h
    · have:s.toList=[]:=by rw[Lib.toList_data];exact List.length_eq_zero_iff.1 (by simpa using h)
      rw[this]at h0;cases h0
    · exact h
   by_cases h1:s.size≤300
   · by_cases ht:Lib.trimS s.data.toList [48,49,50,51,52,53,54,55,56,57]=[]
     · by_cases h2:s.size=1
       · obtain rfl:r=true:=HP.out.2 ⟨h0,h1,ht,.inl h2⟩;rw[ht]at hcon;have hb2:((s.size:Int)==1)=true:=by rw[beq_iff_eq];omega
         clear ht h2;go_enter Tryz.func155,Tryz.ntmps155
         go_wp2_with (go_at_call 179;refine hcon.mono ?_;rintro e w' ⟨rfl,hb⟩)
         go_ret;exact⟨ret_bool (by simp),hb⟩
       · have hb2:((s.size:Int)==1)=false:=by rw[beq_eq_false_iff_ne];omega
         rw[ht]at hcon
         by_cases h3:s[0].toNat=48
         · obtain rfl:r=false:=HF.out (fun h=>by rcases h.2.2.2 with h | h;(· exact h2 h);(· exact h h0' h3));have hb3:((s[0].toNat:Int) != 48)=false:=by rw[h3];rfl
           clear ht h2 h3;go_enter Tryz.func155,Tryz.ntmps155
           go_wp2_with (go_at_call 179;refine hcon.mono ?_;rintro e w' ⟨rfl,hb⟩)
           go_ret;exact⟨ret_bool (by simp),hb⟩
         · obtain rfl:r=true:=HP.out.2 ⟨h0,h1,ht,.inr (fun _=>h3)⟩;have hb3:((s[0].toNat:Int) != 48)=true:=by rw[bne_iff_ne];omega
           clear ht h2 h3;go_enter Tryz.func155,Tryz.ntmps155
           go_wp2_with (go_at_call 179;refine hcon.mono ?_;rintro e w' ⟨rfl,hb⟩)
           go_ret;exact⟨ret_bool (by simp),hb⟩
     · obtain rfl:r=false:=HF.out (fun h=>ht h.2.2.1);have hte:(Lib.trimS s.data.toList [48,49,50,51,52,53,54,55,56,57]).isEmpty=false:=by simpa using ht
       clear ht;generalize Lib.trimS s.data.toList [48,49,50,51,52,53,54,55,56,57]=tl at hcon hte;go_enter Tryz.func155,Tryz.ntmps155
       go_wp2_with (go_at_call 179;refine hcon.mono ?_;rintro e w' ⟨rfl,hb⟩)
       go_ret;exact⟨ret_bool (by simp),hb⟩
   · obtain rfl:r=false:=HF.out (fun h=>h1 h.2.1);go_enter Tryz.func155,Tryz.ntmps155;go_wp2;go_ret;exact⟨ret_bool (by simp),Below.refl _ _⟩
end Nt
end
section
open Go.RowKit
namespace Nt
def PostTrim (b off cap:Nat) (xs:List Nat) (w:World) (e:Ending) (w':World):Prop :=
 ∃k,e=.returned (.slice (some ⟨b,off,none⟩) k cap)∧Trimmed xs k∧w=w'
theorem trim_some (w:World) (b off cap:Nat) (xs:List Nat) (hl:xs.length≤1000000) (hcap:xs.length≤cap)
 (hc:∀i,i<xs.length→w.cell? ⟨b,off+i,none⟩=some (.int .u64 (lim xs i))) :
 Calls Tryz.prog 180 #[.slice (some ⟨b,off,none⟩) xs.length cap] w (PostTrim b off cap xs w):=by
 go_enter Tryz.func180,Tryz.ntmps180;go_wp2
 go_loop [0] (fun v=>∃k,k≤xs.length∧v=.slice (some ⟨b,off,none⟩) k cap∧(∀j,k≤j→j<xs.length→lim xs j=0)) (fun v=>slen v)
 case atStart=>exact⟨_,Nat.le_refl _,rfl,fun j h h'=>by omega⟩
 case round =>
  obtain⟨k,hk,rfl,hz⟩:=hrel;have HZ:=Lib.hid hz;clear hz
  by_cases h0:0<k
  · have hcx:=hc (k-1) (by omega)
    by_cases hx:lim xs (k-1)=0
    · have HX:=Lib.hid hx;rw[hx]at hcx;clear hx hc;go_wp2;refine⟨⟨k-1,by omega,rfl,fun j h h'=>?_⟩,by simp only[slen];omega⟩
      by_cases e:j=k-1
      · rw[e];exact HX.out
      · exact HZ.out j (by omega) h'
    · have hxb:((lim xs (k-1):Int)==0)=false:=by simp;exact hx
      have HX:=Lib.hid hx;clear hx hc;go_wp2;go_ret;exact⟨k,rfl,⟨hk,HZ.out,fun _=>HX.out⟩,rfl⟩
  · clear hc;go_wp2;go_ret;exact⟨k,rfl,⟨hk,HZ.out,fun h=>by omega⟩,rfl⟩
theorem trim_nil (w:World) :
 Calls Tryz.prog 180 #[.slice none 0 0] w fun e w'=>e=.returned (.slice none 0 0)∧w=w':=by
 go_enter Tryz.func180,Tryz.ntmps180;go_wp2;refine wp_loop_rounds 1 ?_;rw[rounds_succ];go_wp2;go_ret;exact⟨rfl,rfl⟩
def PostNum (w:World) (u:Value) (xs:List Nat) (e:Ending) (w':World):Prop :=
 ∃v k,e=.returned v∧Trimmed xs k∧Sl w v (xs.take k)∧(∀B,From B u→From B v)∧w=w'
theorem trim_any (w:World) (v:Value) (xs:List Nat) (hl:xs.length≤1000000) (hs:Sl w v xs) :
 Calls Tryz.prog 180 #[v] w (PostNum w v xs):=by
 rcases hs.shape with⟨rfl,rfl⟩ | ⟨b,off,cap,rfl,hb,hcap,hc⟩
 · refine(trim_nil w).mono ?_;rintro e w' ⟨rfl,rfl⟩;exact⟨_,0,rfl,⟨Nat.le_refl _,fun j _ h=>absurd h (by simp),fun h=>by omega⟩,Sl.nil _,fun _ h=>h,rfl⟩
 · refine(trim_some w b off cap xs hl hcap hc).mono ?_;rintro e w' ⟨k,rfl,ht,rfl⟩;have hlen:(xs.take k).length=k:=by have:=ht.1;simp;omega
   refine⟨_,k,rfl,ht,?_,fun _ h=>h,rfl⟩;have:=Sl.mk (w:=w) (b:=b) (off:=off) (cap:=cap) (xs:=xs.take k) hb (by have:=ht.1;omega) (fun i hi=>by rw[hlen]at hi;rw[lim_take _ _ _ hi];exact hc i (by have:=ht.1;omega));rw[hlen]at this;exact this
end Nt
end
section
open Go.RowKit Go.Shelf
attribute [local go_sem] Oper.semAt_some
namespace Nt
abbrev Place (n:Nat):={ i:Nat // i<n }
def back (n k:Nat):List (Place n):=((List.range k).filterMap fun j=>if h:n-1-j<n then some ⟨n-1-j,h⟩ else none)
theorem back_zero (n:Nat):back n 0=[]:=rfl
theorem back_succ (n k:Nat) (h:k<n):back n (k+1)=back n k++[⟨n-1-k,by omega⟩]:=by
 simp only[back,List.range_succ,List.filterMap_append,List.filterMap_cons,List.filterMap_nil];rw[dif_pos (by omega)]
theorem back_length (n k:Nat) (h:k≤n):(back n k).length=k:=by
 induction k with
 | zero=>rfl
 | succ k ih=>rw[back_succ n k (by omega),List.length_append,ih (by omega)];rfl
def Keep2 (b c:Nat) (W W':World):Prop:=W'.heap[b]? = W.heap[b]?∧W'.heap[c]? = W.heap[c]?
theorem Keep2.refl (b c:Nat) (W:World):Keep2 b c W W:=⟨rfl,rfl⟩
theorem Keep2.trans {b c:Nat} {A B C:World} (h:Keep2 b c A B) (k:Keep2 b c B C):Keep2 b c A C:=⟨k.1.trans h.1,k.2.trans h.2⟩
theorem Keep2.of_below {b c n:Nat} {A B:World} (h:Below n A B) (hb:b<n) (hc:c<n):Keep2 b c A B:=⟨h.block b hb,h.block c hc⟩
theorem Keep2.setCell {b c:Nat} (W:World) (p:Addr) (v:Value) (hb:b≠p.block) (hc:c≠p.block):Keep2 b c W (W.setCell p v) :=
 ⟨Below.heap_setCell _ _ _ _ hb,Below.heap_setCell _ _ _ _ hc⟩
def SlAt (W:World) (b:Nat) (sv:Value) (xs:List Nat):Prop :=
 (xs=[]∧∃cap,sv=.slice none 0 cap)∨∃off cap,sv=.slice (some ⟨b,off,none⟩) xs.length cap∧∀j,j<xs.length→W.cell? ⟨b,off+j,none⟩=some (.int .u64 (lim xs j))
theorem SlAt.keep {W W':World} {b c:Nat} {sv:Value} {xs:List Nat} (h:SlAt W b sv xs) (hk:Keep2 b c W W'):SlAt W' b sv xs:=by
 rcases h with h | ⟨off,cap,h,hc⟩
 · exact .inl h
 · exact .inr ⟨off,cap,h,fun j hj=>(World.cell?_of_block (w:=W) hk.1).trans (hc j hj)⟩
theorem back_walk (F:Fence) (n:Nat) (hf:F.fn 211) (hro:F.round=none) (hn:1≤n) (l Bs b off cap:Nat) (xs:List Nat) (hl:xs.length≤1000000) (J Jx:List (Place xs.length)→World→Prop)
 (hY:∀pre (x:Place xs.length) W,J pre W→pre.length<xs.length→YieldAt F (n-1) Tryz.prog l #[.int .i64 (x.1:Int),.int .u64 (lim xs x.1)] W fun e W' =>
   (e=.returned (.bool true)∧J (pre++[x]) W'∧Keep2 b Bs W W')∨(e=.returned (.bool false)∧Jx (pre++[x]) W'))
 (W:World) (hBs:W.cell? ⟨Bs,0,none⟩=some (.slice (some ⟨b,off,none⟩) xs.length cap)) (hc:∀j,j<xs.length→W.cell? ⟨b,off+j,none⟩=some (.int .u64 (lim xs j))) (h0:J [] W) :
 CallsIn F n Tryz.prog 211 #[.func (.yield l) #[] #[],.pointer (some ⟨Bs,0,none⟩)] W fun e W'=>(∃v,e=.returned v) ∧
  ((∃ys,ys=back xs.length xs.length∧J ys W')∨(∃pre,(∃k,k≤xs.length∧pre=back xs.length k)∧Jx pre W')):=by
 refine callsIn_of_wp Tryz.func211 rfl hf ?_ hro;simp only[Tryz.ntmps211,List.size_toArray,List.length_cons,List.length_nil,Nat.reduceAdd,Nat.reduceSub,Array.replicate_succ,Array.replicate_zero,List.push_toArray,List.append_toArray,List.nil_append,List.cons_append]
 gi_wp2
 gi_loopw [3] (fun i wr=>∃k:Nat,k≤xs.length∧i=.int .i64 ((xs.length:Int)-1-k)∧J (back xs.length k) wr∧Keep2 b Bs W wr)
  (fun i _=>((intOf i)+1).toNat)
 case atStart=>exact⟨0,Nat.zero_le _,by simp,h0,Keep2.refl _ _ _⟩
 case round =>
  obtain⟨k,hk,rfl,hJs,hnx⟩:=hrel
  by_cases hlt:k<xs.length
  · have hcx:=(World.cell?_of_block (w:=W) (a:=⟨b,off+(xs.length-1-k),none⟩) hnx.1).trans (hc (xs.length-1-k) (by omega));have hbx:=(World.cell?_of_block (w:=W) (a:=⟨Bs,0,none⟩) hnx.2).trans hBs;obtain⟨fn,tmps,assign,body,hy,hR⟩:=hY _ ⟨xs.length-1-k,by omega⟩ wr hJs (by rw[back_length _ _ hk];exact hlt);dsimp only at hy;have ei:(xs.length:Int)-1-k=((xs.length-1-k:Nat):Int):=by omega
    rw[ei];obtain⟨q,hqe⟩:∃q,q=xs.length-1-k:=⟨_,rfl⟩;have hq:q<xs.length:=by omega
    have HB:(back xs.length (k+1)=back xs.length k++[⟨q,hq⟩]):=by rw[back_succ _ _ hlt];subst hqe;rfl
    replace HB:=Lib.hid HB;have HQ:Hid (q+k+1=xs.length):=by unfold Hid;omega
    have hx:(⟨xs.length-1-k,by omega⟩:Place xs.length)=⟨q,hq⟩:=by subst hqe;rfl
    rw[←hqe]at hcx hy ⊢;rw[hx]at hR;clear hqe hx ei
    gi_wp2
    refine hR.mono ?_;rintro e W3 (⟨rfl,hJ3,hk3⟩ | ⟨rfl,hJx3⟩)
    · gi_wp2
      have hq2:=HQ.out
      go_roundw
      case rel=>exact⟨k+1,by omega,congrArg (Value.int .i64) (by omega),by rw[HB.out];exact hJ3,hnx.trans hk3⟩
      case measure=>simp only[intOf];omega
    · gi_wp2
      refine bodyPost_ret (results_none rfl _ _ _) rfl ?_;exact⟨⟨_,rfl⟩,.inr ⟨_,⟨k+1,by omega,HB.out.symm⟩,hJx3⟩⟩
  · obtain rfl:k=xs.length:=by omega
    have ei:(xs.length:Int)-1-xs.length=-1:=by omega
    rw[ei]
    gi_wp2
    go_end0;exact⟨⟨_,rfl⟩,.inl ⟨_,rfl,hJs⟩⟩
theorem back_walk_nil (F:Fence) (n:Nat) (hf:F.fn 211) (hro:F.round=none) (l Bs cap:Nat) (J:List (Place 0)→World→Prop) (W:World) (hBs:W.cell? ⟨Bs,0,none⟩=some (.slice none 0 cap)) (h0:J [] W) :
 CallsIn F n Tryz.prog 211 #[.func (.yield l) #[] #[],.pointer (some ⟨Bs,0,none⟩)] W fun e W'=>(∃v,e=.returned v)∧J [] W':=by
 refine callsIn_of_wp Tryz.func211 rfl hf ?_ hro;simp only[Tryz.ntmps211,List.size_toArray,List.length_cons,List.length_nil,Nat.reduceAdd,Nat.reduceSub,Array.replicate_succ,Array.replicate_zero,List.push_toArray,List.append_toArray,List.nil_append,List.cons_append]
 gi_wp2
 gi_loopw [3] (fun i wr=>i=.int .i64 (-1)∧J [] wr) (fun _ _=>0)
 case atStart=>exact⟨rfl,h0⟩
 case round =>
  obtain⟨rfl,hJs⟩:=hrel
  gi_wp2
  go_end0;exact⟨⟨_,rfl⟩,hJs⟩
theorem back_make (F:Fence) (n:Nat) (hf:F.fn 183) (hro:F.round=none) (a:Option Addr) (len cap:Nat) (w:World) :
 CallsIn F n Tryz.prog 183 #[.slice a len cap] w fun e w'=>e=.returned (.func (.func 211) #[] #[.pointer (some ⟨w.heap.size,0,none⟩)])∧w'=w.alloc (.cells #[.slice a len cap] 157):=by
 refine callsIn_of_wp Tryz.func183 rfl hf ?_ hro;simp only[Tryz.ntmps183,List.size_toArray,List.length_cons,List.length_nil,Nat.reduceAdd,Nat.reduceSub,Array.replicate_succ,Array.replicate_zero,List.push_toArray,List.append_toArray,List.nil_append,List.cons_append]
 gi_wp2
 go_ret;exact⟨rfl,rfl⟩
theorem back_stops (F:Fence) (n:Nat) (hf:F.fn 211) (hro:F.round=none) (hn:1≤n) (Bs b:Nat) (sv:Value) (xs:List Nat) (hl:xs.length≤1000000) (w:World) (hBs:Bs<w.heap.size) (hb:b<w.heap.size)
 (hc:w.cell? ⟨Bs,0,none⟩=some sv) (hI:SlAt w b sv xs) :
 SeqStopsK F n Tryz.prog 211 #[.pointer (some ⟨Bs,0,none⟩)] (fun x:Place xs.length=>#[Value.int .i64 (x.1:Int),.int .u64 (lim xs x.1)]) (Keep2 b Bs)
  (fun ys=>ys=back xs.length xs.length) (fun pre=>∃k,k≤xs.length∧pre=back xs.length k) xs.length w:=fun l J Jx W hW _ _ hY h0=>by
 have hc':=(hW.cell (p:=⟨Bs,0,none⟩) hBs).trans hc
 rcases hI.keep (Keep2.of_below hW hb hBs) with⟨rfl,cap,rfl⟩ | ⟨off,cap,rfl,hcs⟩
 · exact(back_walk_nil F n hf hro l Bs cap J W hc' h0).mono fun e W' ⟨he,hj⟩=>⟨he,.inl ⟨_,rfl,hj⟩⟩
 · exact(back_walk F n hf hro hn l Bs b off cap xs hl J Jx hY W hc' hcs h0).mono fun e W' h=>h
end Nt
end
section
open Go.RowKit Go.Sort Go.Lib Go.Shelf
namespace Nt
theorem holds_zero0 (w:World) (T:TypeId) (nd:Nat) (hs:nd≤24):Holds (fun(b:UInt8)=>Value.int .u8 (b.toNat:Int)) (w.alloc (.cells zeros24 T)) w.heap.size 0 (Array.replicate nd (0:UInt8)):=fun j hj=>by
 have hj':j<nd:=by simpa using hj
 refine⟨?_,World.frozen?_alloc_new _ _ _ _⟩;rw[World.cell?_alloc_new,Nat.zero_add,zeros24_at _ (by omega),getElem!_pos _ j hj];simp
theorem below_putRow (w:World) (o:Obj) (dk:Array UInt8) (k:Nat):Below w.heap.size w ((putRow (fun(b:UInt8)=>Value.int .u8 (b.toNat:Int)) (w.alloc o) w.heap.size 0 dk).drewN k):=by
 rw[alloc_eq_grow];obtain⟨os',_,e⟩:=putRow_grow_new (fun(b:UInt8)=>Value.int .u8 (b.toNat:Int)) w #[o] w.heap.size 0 dk (Nat.le_refl _);rw[e];exact(below_grow w os').trans (by have:=below_drewN (grow w os') k;exact this.mono (by simp[grow]))
theorem formatUint_inner (u:Nat) (hu64:u<18446744073709551616) (w:World) (htab:Lib.TabIs Tryz.prog w "internal/strconv.uint64pow10" .u64 Lib.pow10Tab) :
 Calls Tryz.prog 215 #[.int .u64 u,.int .i64 10] w fun e w'=>e=.returned (.string ⟨(Lib.decDigits u).toArray⟩)∧Below w.heap.size w w':=by
 by_cases hs:u<100
 · go_enter Tryz.func215,Tryz.ntmps215
   go_wp2_with (go_at_call 198;refine(Tryz.internal_strconv_small u hs _).mono ?_;rintro e w' ⟨rfl,rfl⟩)
   go_ret;exact⟨rfl,Below.refl _ _⟩
 · have hu1:1≤u:=by omega
   have hnd20:Lib.nDigits u≤20:=by have:=Lib.numDigits_eq u hu1 hu64;split at this<;>omega
   have hal:Tryz.prog.arrayLen 195=24:=by kernel_rfl
   have hsl:∀W,(Instr.sliceAt 195 (.pointer (some ⟨w.heap.size,0,none⟩)) none (some (.int .i64 (Lib.nDigits u:Int))) none).run Tryz.prog W=.ok (.slice (some ⟨w.heap.size,0,none⟩) (Lib.nDigits u) 24) W:=fun W=>by
    rw[run_sliceAt_array_h W 195 ⟨w.heap.size,0,none⟩ (by kernel_rfl) .i64 (Lib.nDigits u:Int) (by omega) (by rw[hal];omega)];go_simp
   have hH0:=holds_zero0 w 195 (Lib.nDigits u) (by omega);have hfmt:=Tryz.internal_strconv_formatBase10 w.heap.size 0 24 u (Array.replicate (Lib.nDigits u) 0) (w.alloc (.cells zeros24 195)) hH0 (by rw[Array.size_replicate];exact Lib.lt_pow_nDigits u) hu64 (by rw[Array.size_replicate];omega);rw[Array.size_replicate]at hfmt;have HH0:=Lib.hid hH0;clear hH0 hal;go_enter Tryz.func215,Tryz.ntmps215
   go_wp2_with (first
    | (go_at_call 199;refine(Tryz.internal_strconv_numDigits u hu1 hu64 _ (Lib.tabIs_alloc htab _)).mono ?_;rintro e w' ⟨rfl,rfl⟩))
   go_at_call 200;refine hfmt.mono ?_;rintro e w' ⟨rfl,k,v',dk,rfl,hF⟩
   have hcv:(convert 35 9 (.slice (some ⟨w.heap.size,0,none⟩) (Lib.nDigits u) 24)).run Tryz.prog ((putRow (fun(b:UInt8)=>Value.int .u8 (b.toNat:Int)) (w.alloc (.cells zeros24 195)) w.heap.size 0 dk).drewN k)=.ok (.string ⟨(Lib.decDigits u).toArray⟩) ((putRow (fun(b:UInt8)=>Value.int .u8 (b.toNat:Int)) (w.alloc (.cells zeros24 195)) w.heap.size 0 dk).drewN k):=by
    have h:=run_convert_bytes_back (P:=Tryz.prog) ((putRow (fun(b:UInt8)=>Value.int .u8 (b.toNat:Int)) (w.alloc (.cells zeros24 195)) w.heap.size 0 dk).drewN k) 35 9 5 ⟨w.heap.size,0,none⟩ 24 (Lib.decDigits u) Tryz.underlying35 Tryz.underlying5 Tryz.underlying9 (fun j hj=>by
     rw[Lib.row_is_numeral hF j hj,Lib.add_plain,World.cell?_drewN];exact cell?_putRow (fun(b:UInt8)=>Value.int .u8 (b.toNat:Int)) _ w.heap.size 0 _ dk HH0.out (by rw[hF.size,Array.size_replicate]) j (by rw[hF.size];rw[Lib.decDigits_length]at hj;exact hj))
    rw[Lib.decDigits_length]at h;exact h
   go_wp2;go_ret;exact⟨rfl,below_putRow _ _ _ _⟩
theorem formatUint (u:Nat) (hu64:u<18446744073709551616) (w:World) (htab:Lib.TabIs Tryz.prog w "internal/strconv.uint64pow10" .u64 Lib.pow10Tab) :
 Calls Tryz.prog 192 #[.int .u64 u,.int .i64 10] w fun e w'=>e=.returned (.string ⟨(Lib.decDigits u).toArray⟩)∧Below w.heap.size w w':=by
 go_enter Tryz.func192,Tryz.ntmps192
 go_wp2_with (go_at_call 215;refine(formatUint_inner u hu64 _ htab).mono ?_;rintro e w' ⟨rfl,hb⟩)
 go_ret;exact⟨rfl,hb⟩
end Nt
end
section
open Go.RowKit Go.Shelf
attribute [local go_sem] Oper.semAt_some
namespace Nt
def piece (xs:List Nat) (x:Place xs.length):List UInt8:=if x.1<xs.length-1 then pad9 (lim xs x.1) else Lib.decDigits (lim xs x.1)
def txt (xs:List Nat) (pre:List (Place xs.length)):List UInt8:=pre.foldl (fun a x=>a++piece xs x) []
theorem txt_snoc (xs:List Nat) (pre:List (Place xs.length)) (x:Place xs.length):txt xs (pre++[x])=txt xs pre++piece xs x:=by
 simp[txt,List.foldl_append]
theorem dec9 {x:Nat} (h:x<1000000000):(Lib.decDigits x).length≤9:=decDigits_len (by simpa using h) (by omega)
theorem piece_len {xs:List Nat} (hx:InR xs) (x:Place xs.length):(piece xs x).length≤9:=by
 unfold piece
 split
 · rw[pad9_len (hx.lim _)];omega
 · exact dec9 (hx.lim _)
theorem txt_len {xs:List Nat} (hx:InR xs) (pre:List (Place xs.length)):(txt xs pre).length≤9*pre.length:=by
 have key:∀(pre:List (Place xs.length)) (a:List UInt8),(pre.foldl (fun a x=>a++piece xs x) a).length≤a.length+9*pre.length:=by
  intro pre
  induction pre with
  | nil=>intro a;simp
  | cons x pre ih =>
    intro a;have h1:=ih (a++piece xs x);have h2:=piece_len hx x;simp only[List.foldl_cons,List.length_cons,List.length_append]at h1 ⊢;omega
 have:=key pre []
 simpa [txt] using this
theorem txt_back {xs:List Nat} (hx:Canon xs) (_h0:xs≠[]) (k:Nat) (hk:k<xs.length) :
 txt xs (back xs.length (k+1))=Lib.decDigits ((lv (xs.drop (xs.length-1-k))))∧0<lv (xs.drop (xs.length-1-k)):=by
 have hpos:0<xs.length:=by omega
 induction k with
 | zero =>
   have hd:xs.drop (xs.length-1-0)=[lim xs (xs.length-1)]:=by
    rw[Nat.sub_zero,List.drop_eq_getElem_cons (by omega),lim_lt _ _ (by omega),List.drop_of_length_le (by omega)]
   have hlast:lim xs (xs.length-1)≠0:=by
    have:=hx.2;rw[List.getLast?_eq_getElem?,List.getElem?_eq_getElem (by omega)]at this;rw[lim_lt _ _ (by omega)];intro e;exact this (congrArg some e)
   rw[hd];simp only[lv,Nat.mul_zero,Nat.add_zero];refine⟨?_,by omega⟩;rw[back_succ _ _ hpos,back_zero,txt_snoc];simp[txt,piece]
 | succ k ih =>
   obtain⟨h1,h2⟩:=ih (by omega)
   have hd:xs.drop (xs.length-1-(k+1))=lim xs (xs.length-1-(k+1))::xs.drop (xs.length-1-k):=by
    rw[List.drop_eq_getElem_cons (by omega),lim_lt _ _ (by omega),show xs.length-1-(k+1)+1=xs.length-1-k by omega]
   rw[hd];simp only[lv];refine⟨?_,by omega⟩;rw[back_succ _ _ hk,txt_snoc,h1,piece,if_pos (by dsimp only;omega)];dsimp only;rw[Nat.add_comm (lim xs (xs.length-1-(k+1))),Nat.mul_comm 1000000000];exact(decDigits_limb _ _ h2 (InR.lim hx.1 _)).symm
theorem txt_all {xs:List Nat} (hx:Canon xs) (h0:xs≠[]):txt xs (back xs.length xs.length)=Lib.decDigits (lv xs):=by
 have hpos:0<xs.length:=List.length_pos_iff.2 h0;have:=(txt_back hx h0 (xs.length-1) (by omega)).1;rw[Nat.sub_self,List.drop_zero,Nat.sub_add_cancel hpos]at this;exact this
theorem text_zero (w:World) (a:Option Addr) (cap:Nat) :
 Calls Tryz.prog 168 #[.slice a 0 cap] w fun e w'=>e=.returned (.tuple #[.string ⟨#[48]⟩,.int .i64 0])∧Below w.heap.size w w':=by
 go_enter Tryz.func168,Tryz.ntmps168;go_wp2;go_ret2;exact⟨rfl,(Below.refl _ w).alloc (Nat.le_refl _) _⟩
def TextI (w W1:World) (sv:Value) (xs:List Nat) (pre:List (Place xs.length)) (W:World):Prop :=
 Lib.IsBuilderF 189 5 (w.heap.size+1) (w.heap.size+1) (Lib.byteCells (txt xs pre)) W∧Below (w.heap.size+1) W1 W∧W.heap[w.heap.size+1+1]? = some (.cells #[sv] 157 (0,0))
theorem block_kept {A B:World} {row:Option Nat} {b:Nat} {c:Array Value} {t:TypeId} {f:Nat×Nat} (h:A.heap[b]? = some (.cells c t f)) (hg:A.grownBy B row) (hr:∀r,row=some r→∃o:Obj,A.heap[r]? = some o∧o.isCells=false) :
 B.heap[b]? = some (.cells c t f):=by
 rw[hg.block b (Array.getElem?_eq_some_iff.1 h).1 (fun e=>?_)]
 · exact h
 · obtain⟨o,ho,hc⟩:=hr b e.symm;rw[h]at ho
   cases ho
   cases hc
theorem builderAt_kept {A B:World} {row:Option Nat} {T e:TypeId} {n b:Nat} {p:Value} {bs:List Value} (h:Lib.BuilderAtF T e n b p bs A) (hg:A.grownBy B row) (hr:∀r,row=some r→∃o:Obj,A.heap[r]? = some o∧o.isCells=false) :
 Lib.BuilderAtF T e n b p bs B:=by
 obtain⟨h1,v,h2,h3,h4⟩:=h;refine⟨h1,v,block_kept h2 hg hr,?_,h4⟩;obtain⟨h5,h6⟩:=h3;refine⟨h5,?_⟩
 rcases h6 with h6 | ⟨g,cap,cur,fz,k1,k2,k3,k4⟩
 · exact .inl h6
 · exact .inr ⟨g,cap,cur,fz,k1,k2,block_kept k3 hg hr,k4⟩
theorem builder_kept {A B:World} {row:Option Nat} {T e:TypeId} {n b:Nat} {bs:List Value} (h:Lib.IsBuilderF T e n b bs A) (hg:A.grownBy B row) (hr:∀r,row=some r→∃o:Obj,A.heap[r]? = some o∧o.isCells=false) :
 Lib.IsBuilderF T e n b bs B:=h.elim (fun k=>.inl (builderAt_kept k hg hr)) (fun k=>.inr (builderAt_kept k hg hr))
theorem builderAt_below {A B:World} {T e:TypeId} {n b:Nat} {p:Value} {bs:List Value} (h:Lib.BuilderAtF T e n b p bs A) (hb:Below A.heap.size A B):Lib.BuilderAtF T e n b p bs B:=by
 obtain⟨h1,v,h2,h3,h4⟩:=h;have key:∀{g:Nat} {o:Obj},A.heap[g]? = some o→B.heap[g]? = some o:=fun h=>(hb.block _ (Array.getElem?_eq_some_iff.1 h).1).trans h;refine⟨h1,v,key h2,?_,h4⟩;obtain⟨h5,h6⟩:=h3;refine⟨h5,?_⟩
 rcases h6 with h6 | ⟨g,cap,cur,fz,k1,k2,k3,k4⟩
 · exact .inl h6
 · exact .inr ⟨g,cap,cur,fz,k1,k2,key k3,k4⟩
theorem builder_below {A B:World} {T e:TypeId} {n b:Nat} {bs:List Value} (h:Lib.IsBuilderF T e n b bs A) (hb:Below A.heap.size A B):Lib.IsBuilderF T e n b bs B :=
 h.elim (fun k=>.inl (builderAt_below k hb)) (fun k=>.inr (builderAt_below k hb))
theorem KeepsOthers.of_others {W W':World} {t:TypeId} {b:Nat} {cs:Array Value} {T:TypeId} {fz:Nat×Nat} (h:Lib.OthersKept t (some b) W W') (hs:W.heap.size≤W'.heap.size) (hb:W.heap[b]? = some (.cells cs T fz)):KeepsOthers W W' :=
 ⟨hs,fun k o hk ho=>h k o hk (fun e=>by cases e;rw[hb]at hk;cases hk;cases ho) (fun c f e=>by subst e;cases ho)⟩
theorem repeat48 (c:Nat):Lib.repeatL (⟨#[48]⟩:ByteArray).data.toList c=List.replicate c 48:=by
 induction c with
 | zero=>rfl
 | succ c ih=>rw[Lib.repeatL,ih];rfl
theorem strCells_arr (l:List UInt8):Lib.strCells ⟨l.toArray⟩=Lib.byteCells l:=rfl
theorem three (w:World) (o1 o2 o3:Obj) :
 (((w.alloc o1).alloc o2).alloc o3).heap[w.heap.size]? = some o1∧(((w.alloc o1).alloc o2).alloc o3).heap[w.heap.size+1]? = some o2 ∧
 (((w.alloc o1).alloc o2).alloc o3).heap[w.heap.size+1+1]? = some o3∧(((w.alloc o1).alloc o2).alloc o3).heap.size=w.heap.size+3∧Below w.heap.size w (((w.alloc o1).alloc o2).alloc o3) :=
 ⟨(Below.heap_alloc _ _ _ (by simp;omega)).trans ((Below.heap_alloc _ _ _ (by simp)).trans (heap_alloc_new _ _)),
  (Below.heap_alloc _ _ _ (by simp)).trans (by have:=heap_alloc_new (w.alloc o1) o2;simpa using this),
  by have:=heap_alloc_new ((w.alloc o1).alloc o2) o3;simpa using this,by simp,
  (((Below.refl _ w).alloc (Nat.le_refl _) _).alloc (by simp) _).alloc (by simp;omega) _⟩
def limited (l:List UInt8):Value:=if 300<l.length then .tuple #[.string ⟨#[]⟩,.int .i64 2] else .tuple #[.string ⟨l.toArray⟩,.int .i64 0]
def TextPost (l:List UInt8) (w:World) (e:Ending) (w':World):Prop:=e=.returned (limited l)∧Below w.heap.size w w'
theorem others_of_below {W W':World} {e:TypeId} {b:Option Nat} (h:Below W.heap.size W W'):Lib.OthersKept e b W W' :=
 fun k _ hk _ _=>(h.block k (Array.getElem?_eq_some_iff.1 hk).1).trans hk
theorem text_close {w W1 W W':World} {sv:Value} {xs:List Nat} {pre:List (Place xs.length)} {x:Place xs.length} {b:Nat} {bs:List UInt8} {a:Act} {Ix:Code→List (Place xs.length)→World→Prop}
 (s1:Lib.IsBuilderF 189 5 (w.heap.size+1) (w.heap.size+1) (Lib.byteCells (txt xs pre)) W) (s2:Below (w.heap.size+1) W1 W) (s3:W.heap[w.heap.size+1+1]? = some (.cells #[sv] 157 (0,0)))
 (hI:Lib.IsBuilderF 189 5 (w.heap.size+1) (w.heap.size+1) (Lib.byteCells (txt xs pre++bs)) W') (hb:Below (w.heap.size+1) W W') (ho:Lib.OthersKept 5 (some (w.heap.size+1)) W W') (hbb:b<w.heap.size)
 (hp:piece xs x=bs) :
 ownPostK (Keep2 b (w.heap.size+1+1)) (TextI w W1 sv xs) Ix (pre++[x]) W .normal a W':=by
 have k3:W'.heap[w.heap.size+1+1]? = some (.cells #[sv] 157 (0,0)):=ho _ _ s3 (by intro e;injection e with e;omega) (by intro c f e;injection e with e1 e2;cases e2);refine⟨?_,⟨hb.block b (by omega),k3.trans s3.symm⟩,?_,s2.trans hb,k3⟩
 · rcases s1 with⟨_,v,h,_⟩ | ⟨_,v,h,_⟩
   · exact KeepsOthers.of_others ho hb.size h
   · exact KeepsOthers.of_others ho hb.size h
 · rw[txt_snoc,hp];exact hI
theorem text_walk (w:World) (a:Option Addr) (cap:Nat) (xs:List Nat) (hl:xs.length≤200) (hx:Hid (Canon xs)) (h0:0<xs.length) (b:Nat) (hb:b<w.heap.size)
 (ha:Hid (SlAt w b (.slice a xs.length cap) xs)) (hE:Hid (Env w)) :
 Calls Tryz.prog 168 #[.slice a xs.length cap] w (TextPost (Lib.decDigits (lv xs)) w):=by
 have hlz:((xs.length:Int)==0)=false:=by rw[beq_eq_false_iff_ne];omega
 refine(callsIn_wide (n:=9)).1 ?_;refine callsIn_of_wp_marks Tryz.func168 rfl trivial ?_ rfl;simp only[Tryz.ntmps168,List.size_toArray,List.length_cons,List.length_nil,Nat.reduceAdd,Nat.reduceSub,Array.replicate_succ,Array.replicate_zero,List.push_toArray,List.append_toArray,List.nil_append,List.cons_append]
 gi_wp2_with (first
  | (refine⟨trivial,?_⟩;gi_at_call 183;refine(back_make Fence.wide _ trivial rfl _ _ _ _).mono ?_;rintro e w' ⟨rfl,rfl⟩)
  | (gi_at_call 183;refine(back_make Fence.wide _ trivial rfl _ _ _ _).mono ?_;rintro e w' ⟨rfl,rfl⟩))
 obtain⟨f1,f2,f3,f4,f5⟩:=three w (.cells #[.slice a xs.length cap] 157) (.cells #[.pointer none,.slice none 0 0] 189) (.cells #[.slice a xs.length cap] 157);generalize ((w.alloc (.cells #[.slice a xs.length cap] 157)).alloc (.cells #[.pointer none,.slice none 0 0] 189)).alloc (.cells #[.slice a xs.length cap] 157)=W1 at f1 f2 f3 f4 f5 ⊢;have hbx:W1.cell? ⟨w.heap.size+1+1,0,none⟩=some (.slice a xs.length cap):=by simp[World.cell?,f3]
 have hbn:W1.cell? ⟨w.heap.size,0,none⟩=some (.slice a xs.length cap):=by simp[World.cell?,f1]
 have hsl:SlAt W1 b (.slice a xs.length cap) xs:=ha.out.keep (c:=b) (Keep2.of_below f5 hb hb)
 refine wpIn_rangeFunc_ownF rfl (by decide) (gf:=211) (lb:=#[.pointer (some ⟨w.heap.size+1+1,0,none⟩)]) rfl trivial (enters_of Tryz.func211 (by kernel_rfl) rfl)
  (back_stops Fence.wide _ trivial rfl (by decide) (w.heap.size+1+1) b _ xs (by omega) W1 (by omega) (by omega) hbx hsl) (fun h k=>h.trans k)
  (fun W l o o' hl h ho hw=>?kb) (Below.refl _ _) (fun _=>rfl)
  (TextI w W1 (.slice a xs.length cap) xs) (fun _ _ _=>False)
  (fun s A B row hs hg hr=>?own)
  (fun _ _ _ _ _ hs _ _=>hs)
  ⟨.inl ⟨Nat.le_refl _,.slice none 0 0,f2,World.ownsRowF_nil _ _ _ _,by simp[Value.ownBlock]⟩,Below.refl _ _,f3⟩
  (fun x=>{ tmps:=#[.slice a xs.length cap,.pointer (some ⟨w.heap.size,0,none⟩),.string ⟨#[]⟩,.int .i64 0,.pointer (some ⟨w.heap.size+1,0,none⟩),.int .i64 (x.1:Int),.int .u64 (lim xs x.1),undef,.slice a xs.length cap,
    .int .i64 xs.length,.bool false,.slice a xs.length cap,.func (.func 211) #[] #[.pointer (some ⟨w.heap.size+1+1,0,none⟩)],.int .i64 (x.1:Int),.int .u64 (lim xs x.1),
    undef,undef,undef,undef,undef,undef,undef,undef,undef,undef,undef,undef,undef,undef,undef,undef,undef],defers:=[] })
  ?assign ?body ?done ?stop
 case kb =>
  have h1:=(Array.getElem?_eq_some_iff.1 h).1;exact⟨World.putObj_heap_other (by omega),World.putObj_heap_other (by omega)⟩
 case own =>
  obtain⟨s1,s2,s3⟩:=hs;have hr':=fun r e=>(hr r e).2;exact⟨builder_kept s1 hg hr',s2.grown hg (by have:=s2.size;omega) (fun k e=>by have:=(hr k e).1;omega),block_kept s3 hg hr'⟩
 case assign =>
  intro l x W K hK
  gi_wp2
  exact hK
 case body =>
  rintro l pre x W ⟨s1,s2,s3⟩ hlen;have hlim:=InR.lim hx.out.1 x.1;have h9:=dec9 hlim;have hxl:=x.2;have hEW:Env W:=hE.out.below (f5.trans (s2.mono (by omega)));have hfmt:=formatUint (lim xs x.1) (by omega) W hEW.tab;have hcn:=(s2.cell (p:=⟨w.heap.size,0,none⟩) (by simp)).trans hbn;have htl:=txt_len hx.out.1 pre;have hpc:piece xs x=if x.1<xs.length-1 then pad9 (lim xs x.1) else Lib.decDigits (lim xs x.1):=rfl
  have hpd:pad9 (lim xs x.1)=List.replicate (9-(Lib.decDigits (lim xs x.1)).length) 48++Lib.decDigits (lim xs x.1):=rfl;have HP:=Lib.hid hpc;have HPD:=Lib.hid hpd;replace s1:=Lib.hid s1;replace s2:=Lib.hid s2;replace s3:=Lib.hid s3;replace htl:=Lib.hid htl;have F4:=Lib.hid f4;clear hpc hpd hsl f1 f2 f3 hbx hbn f4 hEW;generalize hdl:Lib.decDigits (lim xs x.1)=dl at h9 hfmt HP HPD;clear hdl;have hsW:=s2.out.size;have hnW:w.heap.size+2<W.heap.size:=by have:=F4.out;omega
  replace hsW:=Lib.hid hsW
  by_cases hq:x.1<xs.length-1
  · obtain ⟨c,hc⟩:∃c:Nat,(9:Int)-(dl.length:Int)=(c:Int):=⟨9-dl.length,by omega⟩;have HC:Hid (c=9-dl.length):=by unfold Hid;omega
    have hq':(x.1:Int)<(xs.length:Int)-1:=by omega
    gi_wp2_with (first
     | (refine⟨trivial,?_⟩;gi_at_call 192;refine(CallsIn.inRound l (callsIn_wide.2 hfmt)).mono ?_;rintro e w2 ⟨rfl,hb2⟩;have hcn2:=(hb2.cell (p:=⟨w.heap.size,0,none⟩) (by simp;omega)).trans hcn;replace hb2:=Lib.hid hb2))
    refine⟨trivial,?_⟩;refine(CallsIn.inRound l (callsIn_wide.2 (Tryz.strings_Repeat ⟨#[48]⟩ c w2 (by omega) (by simp[ByteArray.size];omega)))).mono ?_;rintro e w3 ⟨rfl,hb3⟩;have hB3:Below W.heap.size W w3:=hb2.out.trans (hb3.mono hb2.out.size);have hs3:=hB3.size;have hrl:Lib.repeatL (⟨#[48]⟩:ByteArray).data.toList c=List.replicate c 48:=repeat48 c;rw[hrl];clear hrl hb3 hb2;have hw1:=writeString_k (w.heap.size+1) (w.heap.size+1) (Lib.byteCells (txt xs pre)) ⟨(List.replicate c 48).toArray⟩ w3 (builder_below s1.out hB3) (by rw[Lib.byteCells_length];have:=htl.out;simp[ByteArray.size];omega) (by omega);generalize hrl:List.replicate c (48:UInt8)=rl at hw1 ⊢;have HRL:=Lib.hid hrl;replace hB3:=Lib.hid hB3;clear hrl
    gi_wp2_with (first
     | (refine⟨trivial,?_⟩;gi_at_call 193;refine(CallsIn.inRound l (callsIn_wide.2 hw1)).mono ?_;rintro e w4 ⟨rfl,hI4,hb4,ho4⟩;clear hw1))
    refine⟨trivial,?_⟩;have hs4:=hb4.size;refine(CallsIn.inRound l (callsIn_wide.2 (writeString_k (w.heap.size+1) (w.heap.size+1) _ ⟨dl.toArray⟩ w4 hI4 (by rw[List.length_append,Lib.byteCells_length,Lib.strCells_length];have:=htl.out;have:=HRL.out;subst this;simp[ByteArray.size];omega) (by omega)))).mono ?_;rintro e w5 ⟨rfl,hI5,hb5,ho5⟩
    gi_wp2
    refine text_close s1.out s2.out s3.out (bs:=rl++dl) ?_ (by have:=hB3.out.mono (show w.heap.size+1≤W.heap.size by omega);exact(this.trans hb4).trans hb5) (((others_of_below hB3.out).trans ho4).trans ho5) (by omega) ?_
    · rw[strCells_arr,strCells_arr]at hI5;rw[Lib.byteCells_append,Lib.byteCells_append,←List.append_assoc];exact hI5
    · rw[HP.out,if_pos hq,HPD.out,←HRL.out,HC.out]
  · have hq':¬(x.1:Int)<(xs.length:Int)-1:=by omega
    gi_wp2_with (first
     | (refine⟨trivial,?_⟩;gi_at_call 192;refine(CallsIn.inRound l (callsIn_wide.2 hfmt)).mono ?_;rintro e w2 ⟨rfl,hb2⟩;have hcn2:=(hb2.cell (p:=⟨w.heap.size,0,none⟩) (by simp;omega)).trans hcn;replace hb2:=Lib.hid hb2))
    refine⟨trivial,?_⟩;have hs2:=hb2.out.size;refine(CallsIn.inRound l (callsIn_wide.2 (writeString_k (w.heap.size+1) (w.heap.size+1) (Lib.byteCells (txt xs pre)) ⟨dl.toArray⟩ w2 (builder_below s1.out hb2.out) (by rw[Lib.byteCells_length];have:=htl.out;simp[ByteArray.size];omega) (by omega)))).mono ?_;rintro e w5 ⟨rfl,hI5,hb5,ho5⟩
    gi_wp2
    refine text_close s1.out s2.out s3.out (bs:=dl) ?_ (by have:=hb2.out.mono (show w.heap.size+1≤W.heap.size by omega);exact this.trans hb5) ((others_of_below hb2.out).trans ho5) (by omega) ?_
    · rw[strCells_arr]at hI5;rw[Lib.byteCells_append];exact hI5
    · rw[HP.out,if_neg hq]
 case done =>
  rintro D zs W hD rfl ⟨s1,s2,s3⟩ hK;have htx:=txt_all hx.out (List.length_pos_iff.1 h0)
  have hlen9:(txt xs (back xs.length xs.length)).length≤1800:=by
   have:=txt_len (xs:=xs) hx.out.1 (back xs.length xs.length);rw[back_length _ _ (Nat.le_refl _)]at this;omega
  rw[htx]at s1 hlen9;have hdn:=decDigits_ne (lv xs);generalize hdl:Lib.decDigits (lv xs)=dl at s1 hlen9 hdn;have HDL:=Lib.hid hdl;clear hdl;have hsW:=s2.size;have hS:=s1;have hBW:Below w.heap.size w W:=f5.trans (s2.mono (by omega));replace s1:=Lib.hid s1;replace s2:=Lib.hid s2;replace s3:=Lib.hid s3;have HK:=Lib.hid hK;have HBW:=Lib.hid hBW;have F4:=Lib.hid f4;clear hsl f1 f2 f3 hbx hbn f4 hK hBW htx;have hlen:=Tryz.Builder_Len_f (w.heap.size+1) (w.heap.size+1) (Lib.byteCells dl) W hS;rw[Lib.byteCells_length]at hlen;clear hS
  by_cases h300:300<dl.length
  · have hlv:limited dl=.tuple #[.string ⟨#[]⟩,.int .i64 2]:=by unfold limited;rw[if_pos h300]
    have HLV:=Lib.hid hlv;clear hlv
    gi_wp2_with (first
     | (refine⟨trivial,?_⟩;gi_at_call 195;refine(callsIn_wide.2 hlen).mono ?_;rintro e w2 ⟨rfl,rfl⟩))
    refine⟨by simp,.inl ⟨_,_,rfl,run_takeDeferred HK.out,?_⟩⟩;refine⟨.tuple #[.string ⟨#[]⟩,.int .i64 2],by simp[results,Tryz.results168,go_sem],by rw[HDL.out,HLV.out],?_⟩;exact HBW.out.grown (grownBy_putObj' _ D (.deferred none)) HBW.out.size (fun k e=>by cases e;have:=F4.out;omega)
  · have hlv:limited dl=.tuple #[.string ⟨dl.toArray⟩,.int .i64 0]:=by unfold limited;rw[if_neg h300]
    have HLV:=Lib.hid hlv;clear hlv
    gi_wp2_with (first
     | (refine⟨trivial,?_⟩;gi_at_call 195;refine(callsIn_wide.2 hlen).mono ?_;rintro e w2 ⟨rfl,rfl⟩))
    have hstr:=Any.Builder_String_k Tryz.lays169 Tryz.Builder_Extra_169 (w.heap.size+1) (w.heap.size+1) dl w2 s1.out hdn;refine⟨trivial,?_⟩;refine(callsIn_wide.2 hstr).mono ?_;rintro e w3 ⟨rfl,_,hb3,ho3⟩;have hK3:w3.heap[D]? = some (.deferred (some [])):=ho3 D _ HK.out (by intro e;injection e with e;have:=F4.out;omega) (by intro c f e;cases e);have HK3:=Lib.hid hK3;replace hb3:=Lib.hid hb3;clear hlen hstr hK3 ho3
    gi_wp2
    refine⟨by simp,.inl ⟨_,_,rfl,run_takeDeferred HK3.out,?_⟩⟩;refine⟨.tuple #[.string ⟨dl.toArray⟩,.int .i64 0],by simp[results,Tryz.results168,go_sem],by rw[HDL.out,HLV.out],?_⟩;exact(HBW.out.trans (hb3.out.mono (by omega))).grown (grownBy_putObj' _ D (.deferred none)) (by have:=hb3.out.size;have:=HBW.out.size;omega) (fun k e=>by cases e;have:=F4.out;omega)
 case stop =>
  rintro D c pre W _ _ h _;exact h.elim
theorem text_any (w:World) (v:Value) (n:Nat) (hn:Num w v n) (hbn:Small n) (hE:Env w) :
 Calls Tryz.prog 168 #[v] w (TextPost (Lib.decDigits n) w):=by
 obtain⟨xs,hx,rfl,hsx⟩:=hn;have hl:=hx.len_le (k:=200) hbn
 obtain ⟨b,hb,hat⟩:∃b,b<w.heap.size∧SlAt w b v xs:=by
  rcases hsx.shape with⟨rfl,rfl⟩ | ⟨b,off,cap,rfl,hb,_,hc⟩
  · exact⟨0,hE.pos,.inl ⟨rfl,0,rfl⟩⟩
  · exact⟨b,hb,.inr ⟨off,cap,rfl,hc⟩⟩
 obtain⟨a,cap,rfl,_⟩:=hsx.addr
 by_cases h0:xs=[]
 · subst h0;refine(text_zero w a cap).mono ?_;rintro e w' ⟨rfl,hb'⟩;refine⟨?_,hb'⟩;rw[lv,Lib.decDigits_one (by omega)];rfl
 · exact text_walk w a cap xs hl hx (List.length_pos_iff.2 h0) b hb hat hE
end Nt
end
section
open Go.RowKit
namespace Nt
theorem infoU:(Tryz.prog.info? 150).map (fun i=>(i.zero,i.size,i.bytes))=some (some (.int .u64 0),1,8):=by kernel_rfl
theorem run_make_num (n:Nat) (hn:n≤1000000) (w:World) :
 (Instr.makeSlice 157 (.int .i64 (n:Int)) (.int .i64 (n:Int))).run Tryz.prog w =
   .ok (.slice (some ⟨w.heap.size,0,none⟩) n n) (w.alloc (.cells (madeCells #[.int .u64 0] n) 150)) :=
 run_make_row' 157 150 (.int .u64 0) 8 Tryz.underlying157 infoU rfl .i64 .i64 n (by omega) (by omega) w
theorem sub_step {X Y Z B x y br z br':Nat} (h:Z+Y=X+br*B) (e:z+(y+br)=x+br'*1000000000) :
 (Z+B*z)+(Y+B*y)=(X+B*x)+br'*(B*1000000000):=by
 have e2:B*z+(B*y+B*br)=B*x+B*(br'*1000000000):=by
  rw[←Nat.mul_add,←Nat.mul_add,←Nat.mul_add,e]
 have e3:br*B=B*br:=Nat.mul_comm _ _;have e4:B*(br'*1000000000)=br'*(B*1000000000):=by rw[←Nat.mul_assoc,Nat.mul_comm B br',Nat.mul_assoc]
 omega
def RelSub (B:Nat) (w:World) (xs ys:List Nat) (g:Nat) (k br:Nat) (wr:World):Prop :=
 ∃zs,zs.length=xs.length∧InR zs∧Row 150 wr g zs∧br≤1∧lo zs k+lo ys k=lo xs k+br*1000000000^k∧Below B w wr
theorem RelSub.step {B:Nat} {w wr:World} {xs ys:List Nat} {g k br:Nat} (h:RelSub B w xs ys g k br wr) (hB:B≤g) (hk:k<xs.length) {z br':Nat}
 (hz:z<1000000000) (hbr:br'≤1) (e:z+(lim ys k+br)=lim xs k+br'*1000000000) :
 RelSub B w xs ys g (k+1) br' (wr.setCell ⟨g,k,none⟩ (.int .u64 (z:Int))):=by
 obtain⟨zs,h1,h2,h3,h4,h5,h6⟩:=h;refine⟨zs.set k z,by simpa using h1,h2.set k z hz,h3.set k z,hbr,?_,h6.setCell hB _⟩;rw[lo_succ,lo_succ,lo_succ,lo_set,lim_set _ _ _ (by omega),Nat.pow_succ];exact sub_step h5 e
theorem RelSub.step' {B:Nat} {w wr:World} {xs ys:List Nat} {g k br:Nat} (h:RelSub B w xs ys g k br wr) (hB:B≤g) (hk:k<xs.length) {z br':Nat} {y:Int}
 (hz:z<1000000000) (hbr:br'≤1) (e:z+(lim ys k+br)=lim xs k+br'*1000000000) (hy:y=(z:Int)) :
 RelSub B w xs ys g (k+1) br' (wr.setCell ⟨g,k,none⟩ (.int .u64 y)):=by
 subst hy;exact h.step hB hk hz hbr e
def PostNumV (B:Nat) (w:World) (n:Nat) (e:Ending) (w':World):Prop :=
 ∃v,e=.returned v∧Num w' v n∧From B v∧Below B w w'
theorem sub_walk (w:World) (a:Option Addr) (cap:Nat) (xs:List Nat) (c:Option Addr) (cap':Nat) (ys:List Nat) (hl:xs.length≤100000) (hyl:ys.length≤xs.length)
 (hx:InR xs) (hy:InR ys) (hle:lv ys≤lv xs)
 (ha:xs≠[]→∃b off,a=some ⟨b,off,none⟩∧b<w.heap.size∧∀i,i<xs.length→w.cell? ⟨b,off+i,none⟩=some (.int .u64 (lim xs i)))
 (hc:ys≠[]→∃b off,c=some ⟨b,off,none⟩∧b<w.heap.size∧∀i,i<ys.length→w.cell? ⟨b,off+i,none⟩=some (.int .u64 (lim ys i))) :
 Calls Tryz.prog 163 #[.slice a xs.length cap,.slice c ys.length cap'] w (PostNumV w.heap.size w (lv xs-lv ys)):=by
 have hmk:=run_make_num xs.length (by omega);go_enter Tryz.func163,Tryz.ntmps163;go_wp2
 go_loopw [6,15] (fun br i wr=>∃k b:Nat,k≤xs.length∧i=.int .i64 k∧br=.int .u64 b∧RelSub w.heap.size w xs ys w.heap.size k b wr)
  (fun _ i _=>xs.length-(intOf i).toNat)
 case atStart=>exact⟨0,0,Nat.zero_le _,rfl,rfl,List.replicate xs.length 0,by simp,InR.zeros _,Row.made0 _ _ _,Nat.zero_le _,by simp[lo_zero],(Below.refl _ _).alloc (Nat.le_refl _) _⟩
 case round =>
  obtain⟨k,b,hk,rfl,rfl,hrel⟩:=hrel
  by_cases hkn:k<xs.length
  · obtain ⟨bx,ox,hax,hbx,hcx⟩:=ha (by intro e;simp[e]at hkn);obtain⟨zs,z1,z2,z3,z4,z5,z6⟩:=id hrel;have hcxk:=(z6.cell (p:=⟨bx,ox+k,none⟩) hbx).trans (hcx k hkn);have hxk:=hx.lim k;have hyk:=hy.lim k;have hzf:=z3.frozen k;have hzc:=z3.cell (i:=k) (by omega);subst hax;clear hcx ha z2 z3 z5 hx hy hmk;replace z6:=Lib.hid z6
    by_cases hky:k<ys.length
    · obtain ⟨b2,oy,hay,hby,hcy⟩:=hc (by intro e;simp[e]at hky);subst hay;have hcyk:=(Hid.out z6).cell (p:=⟨b2,oy+k,none⟩) hby |>.trans (hcy k hky)
      have HR:=Lib.hid hrel;clear hrel hc hcy z6
      by_cases hlt:lim xs k<b+lim ys k
      · go_wp2;exact⟨⟨k+1,1,by omega,by go_num,rfl,HR.out.step' (Nat.le_refl _) hkn (z:=lim xs k+1000000000-(b+lim ys k)) (by omega) (by omega) (by omega) (by omega)⟩,by simp only[intOf];omega⟩
      · go_wp2;exact⟨⟨k+1,0,by omega,by go_num,rfl,HR.out.step' (Nat.le_refl _) hkn (z:=lim xs k-(b+lim ys k)) (by omega) (by omega) (by omega) (by omega)⟩,by simp only[intOf];omega⟩
    · clear hc z6;have hyk0:=lim_ge ys k (by omega);have HR:=Lib.hid hrel;have HY:=Lib.hid hyk0;clear hrel hyk hyk0
      by_cases hlt:lim xs k<b
      · go_wp2;have:=HY.out;exact⟨⟨k+1,1,by omega,by go_num,rfl,HR.out.step' (Nat.le_refl _) hkn (z:=lim xs k+1000000000-b) (by omega) (by omega) (by omega) (by omega)⟩,by simp only[intOf];omega⟩
      · go_wp2;have:=HY.out;exact⟨⟨k+1,0,by omega,by go_num,rfl,HR.out.step' (Nat.le_refl _) hkn (z:=lim xs k-b) (by omega) (by omega) (by omega) (by omega)⟩,by simp only[intOf];omega⟩
  · obtain rfl:k=xs.length:=by omega
    obtain⟨zs,z1,z2,z3,z4,z5,z6⟩:=id hrel;have Z1:=Lib.hid z1;have Z5:=Lib.hid z5;have hsl:=z3.sl;rw[z1]at hsl;clear z1 z5 hrel ha hc hmk
    go_wp2_with (go_at_call 180;refine(trim_any _ _ _ (by have:=Z1.out;omega) hsl).mono ?_;rintro e w' ⟨v,k,rfl,ht,hs,hf,rfl⟩)
    go_ret;have e5:=Z5.out;have e1:=Z1.out;rw[lo_all _ _ (by omega),lo_all _ _ (by omega),lo_all _ _ (by omega)]at e5;have hlt:=lv_lt z2;rw[e1]at hlt
    have hb:b=0:=by
     rcases Nat.eq_zero_or_pos b with h | h
     · exact h
     · have:1*1000000000^xs.length≤b*1000000000^xs.length:=Nat.mul_le_mul_right _ h;omega
    rw[hb,Nat.zero_mul]at e5;exact⟨v,rfl,⟨zs.take k,ht.canon z2,by rw[ht.lv];omega,hs⟩,hf _ (Nat.le_refl _),z6⟩
theorem sub_any (w:World) (v u:Value) (n m:Nat) (hn:Num w v n) (hm:Num w u m) (hle:m≤n) (hb:Small n) :
 Calls Tryz.prog 163 #[v,u] w (PostNumV w.heap.size w (n-m)):=by
 obtain⟨xs,hx,rfl,hsx⟩:=hn;obtain⟨ys,hy,rfl,hsy⟩:=hm;have hl:=hx.len_le (k:=200) hb;have hyl:=hy.len_mono hx hle;obtain⟨a,cap,rfl,ha⟩:=hsx.addr;obtain⟨c,cap',rfl,hc⟩:=hsy.addr;exact sub_walk w a cap xs c cap' ys (by omega) hyl hx.1 hy.1 hle ha hc
end Nt
end
section
open Go.RowKit
namespace Nt
def ParseRel (B:Nat) (w:World) (l:List UInt8) (v:Value) (i:Value) (wr:World):Prop :=
 ∃(k e:Nat) (zs:List Nat) (j:Int),i=.int .i64 j∧e=j.toNat∧j+9*k=l.length∧k≤l.length∧-9<j∧InR zs∧Own 150 B wr v k zs∧dval (l.take e)*1000000000^k+lv zs=dval l∧Below B w wr
theorem Own.from_block {t:TypeId} {B:Nat} {w:World} {v:Value} {n:Nat} {xs:List Nat} (h:Own t B w v n xs) (b:Nat) (e:v.ownBlock=some b):B≤b:=by
 have:=h.from
 cases v<;>simp[Value.ownBlock]at e
 rename_i a l c
 cases a with
 | none=>simp at e
 | some ad=>simp at e;subst e;exact this
theorem parse_any (s:ByteArray) (w:World) (hs:s.size≤1000) (hd:∀c∈s.data.toList,isDig c) :
 Calls Tryz.prog 161 #[.string s] w (PostNumV w.heap.size w (dval s.data.toList)):=by
 obtain⟨i0,hi,hz0,hz1,hz2⟩:=info_parts infoU;have hsl:s.data.toList.length=s.size:=by simp
 have HSL:=Lib.hid hsl;have HD:=Lib.hid hd;clear hsl hd;go_enter Tryz.func161,Tryz.ntmps161;go_wp2
 go_loopw [3,4] (fun v i wr=>ParseRel w.heap.size w s.data.toList v i wr) (fun _ i _=>(intOf i).toNat)
 case atStart =>
  have:=HSL.out;exact⟨0,s.size,[],s.size,rfl,by simp,by omega,by omega,by omega,fun x hx=>absurd hx (by simp),World.ownsRow_nil _ _ _ _,by rw[List.take_of_length_le (by omega)];simp[lv],Below.refl _ _⟩
 case round =>
  obtain⟨k,e,zs,j,rfl,he,hk,hk2,hj,z1,z2,z3,z4⟩:=hrel;have hsl:=HSL.out;rw[hsl]at hk hk2;clear hsl;have hsz:=z4.size
  by_cases hp:0<j
  · obtain ⟨q,hq⟩:∃q:Nat,j=(q:Int):=⟨j.toNat,by omega⟩;subst hq;have he':e=q:=by omega
    subst he';have hqs:e≤s.size:=by omega
    obtain⟨a,ha⟩:∃a,a=e-9:=⟨_,rfl⟩;have ha1:a≤e:=by omega
    have hpu:=parseUint_ok (s.extract a e) (by simp;omega) (dval ((s.data.toList.take e).drop a)) ?pc wr
    case pc =>
     have e1:(s.extract a e).data.toList=(s.data.toList.take e).drop a:=by rw[Lib.extract_data,List.drop_take]
     rw[e1];refine parse_chunk (fun c hc=>HD.out c (List.mem_of_mem_take (List.mem_of_mem_drop hc))) ?_ ?_
     · intro h;have:=congrArg List.length h;simp at this;have:=HSL.out;simp at this;omega
     · simp;omega
    have hlt:dval ((s.data.toList.take e).drop a)<1000000000:=by
     have h1:=dval_lt (l:=(s.data.toList.take e).drop a) (fun c hc=>HD.out c (List.mem_of_mem_take (List.mem_of_mem_drop hc)));have h2:((s.data.toList.take e).drop a).length≤9:=by simp;omega
     exact Nat.lt_of_lt_of_le h1 (Nat.le_trans (Nat.pow_le_pow_right (by omega) h2) (by decide))
    have hval:dval (s.data.toList.take a)*1000000000^(k+1)+(lv zs+1000000000^k*dval ((s.data.toList.take e).drop a))=dval s.data.toList:=by
     have hsplit:s.data.toList.take e=s.data.toList.take a++(s.data.toList.take e).drop a:=by
      have h1:=(List.take_append_drop a (s.data.toList.take e)).symm;rw[List.take_take,Nat.min_eq_left ha1]at h1;exact h1
     rw[←z3]
     conv=>rhs;rw[hsplit,dval_append]
     have hlen:((s.data.toList.take e).drop a).length=e-a:=by
      rw[List.length_drop,List.length_take,HSL.out,Nat.min_eq_left hqs]
     rw[hlen]
     rcases Nat.eq_zero_or_pos a with h0 | h0
     · rw[h0,List.take_zero,dval_nil,Nat.zero_mul,Nat.zero_mul,Nat.zero_add,Nat.zero_add,Nat.mul_comm (1000000000^k)];omega
     · have h9:e-a=9:=by omega
       rw[h9,Nat.pow_succ,Nat.add_mul,Nat.mul_comm (1000000000^k) (dval _)]
       have:dval (s.data.toList.take a)*(1000000000^k*1000000000)=dval (s.data.toList.take a)*10^9*1000000000^k:=by
        rw[Nat.mul_comm (1000000000^k),Nat.mul_assoc,show (10:Nat)^9=1000000000 from rfl]
       omega
    generalize dval ((s.data.toList.take e).drop a)=x at hpu hlt hval;replace z1:=Lib.hid z1;replace z3:=Lib.hid z3;replace z4:=Lib.hid z4;replace hval:=Lib.hid hval;replace he:=Lib.hid he;replace hk:=Lib.hid hk;have hmx:max (0:Int) ((e:Int)-9)=(a:Int):=by omega
    have HA:=Lib.hid ha;clear ha
    go_wp2_with (first
     | (go_at_call 181;refine hpu.mono ?_;rintro e w1 ⟨rfl,hb1⟩;replace hb1:=Lib.hid hb1)
     | (at_builtin;refine wpList_append_own _ rfl _ _ 157 rfl w.heap.size 150 i0 (.int .u64 0) 1 8 Tryz.underlying157 hi hz0 hz1 hz2 rfl (by decide) u3 k (lvals zs) rfl ((z2.below hb1.out).alloc _) ⟨w1.heap.size,0,none⟩ 1 1 [.int .u64 (x:Int)] rfl rfl (one_new _ _ _) (one_cell _ _) (by unfold maxLen;omega) (by omega) (by have:=hb1.out.size;simp;omega) ?_;intro v2 w2 hown2 hgr2 _))
    have hb1':=hb1.out;have hsz1:=hb1'.size;rw[lvals_snoc]at hown2;refine⟨⟨k+1,a,zs++[x],(e:Int)-9,rfl,by have:=HA.out;omega,by have:=hk.out;have:=HSL.out;omega,?_,by omega,?_,hown2,?_,((z4.out.trans (hb1'.mono hsz)).alloc (by omega) _).grown hgr2 (by simp;omega) (fun b e=>z2.from_block b e)⟩,by simp only[intOf];omega⟩
    · have:=hk.out;have:=HSL.out;omega
    · intro y hy
      rcases List.mem_append.1 hy with h | h
      · exact z1.out y h
      · simp at h;omega
    · rw[lv_append,z2.len];have:=hval.out;simp only[lv,Nat.mul_zero,Nat.add_zero];omega
  · obtain rfl:e=0:=by omega
    have hsl:=z2.sl;have hzl:=z2.len;have hfr:=z2.from;replace z3:=Lib.hid z3;replace hzl:=Lib.hid hzl;replace z4:=Lib.hid z4;have hj0:¬(0:Int)<j:=hp;have ht:=trim_any wr u3 zs (by have:=hzl.out;omega) hsl;obtain⟨a3,l3,c3,e3⟩:∃a l c,u3=.slice a l c:=by obtain⟨a,c,h,_⟩:=hsl;exact⟨a,_,c,h⟩
    subst e3;clear z2 hsl he hk
    go_wp2_with (go_at_call 180;refine ht.mono ?_;rintro e w' ⟨v,k',rfl,ht',hs',hf',rfl⟩)
    go_ret;have:=z3.out;rw[List.take_zero,dval_nil,Nat.zero_mul,Nat.zero_add]at this;exact⟨v,rfl,⟨zs.take k',ht'.canon z1,by rw[ht'.lv,this],hs'⟩,hf' _ hfr,z4.out⟩
end Nt
end
section
open Go.RowKit
namespace Nt
def RelAdd (B:Nat) (w:World) (xs ys:List Nat) (v:Value) (k c:Nat) (wr:World):Prop :=
 ∃zs,InR zs∧Own 150 B wr v k zs∧c≤1∧lv zs+c*1000000000^k=lo xs k+lo ys k∧Below B w wr
theorem add_step {Z X Y P c c' x y:Nat} (h:Z+c*P=X+Y) (hc:c'=(x+c+y)/1000000000) :
 Z+P*((x+c+y)%1000000000)+c'*(P*1000000000)=X+P*x+(Y+P*y):=by
 have e1:P*(x+c+y)=P*x+P*c+P*y:=by rw[Nat.mul_add,Nat.mul_add]
 have e2:P*(x+c+y)=P*((x+c+y)%1000000000)+P*(1000000000*((x+c+y)/1000000000)):=by rw[←Nat.mul_add,Nat.mod_add_div]
 have e3:c'*(P*1000000000)=P*(1000000000*((x+c+y)/1000000000)):=by rw[hc,Nat.mul_comm,Nat.mul_assoc]
 have e4:c*P=P*c:=Nat.mul_comm _ _;omega
theorem add_rel {B:Nat} {w wr w':World} {xs ys zs:List Nat} {v v':Value} {k c:Nat} {x:Int} (h1:InR zs) (h2:Own 150 B wr v k zs) (h3:c≤1)
 (h4:lv zs+c*1000000000^k=lo xs k+lo ys k) (h5:Below B w wr) (hx:InR xs) (hy:InR ys) (hB:B≤wr.heap.size) {o:Obj}
 (hown:w'.ownsRow B 150 1 v' (k+1) (lvals zs++[Value.int .u64 x])) (hg:(wr.alloc o).grownBy w' v.ownBlock) (hvB:∀b,v.ownBlock=some b→B≤b)
 (hxe:x=(((lim xs k+c+lim ys k)%1000000000:Nat):Int)) :
 RelAdd B w xs ys v' (k+1) ((lim xs k+c+lim ys k)/1000000000) w':=by
 have b1:=hx.lim k;have b2:=hy.lim k;subst hxe;rw[lvals_snoc]at hown;have hl:=h2.len;refine⟨zs++[(lim xs k+c+lim ys k)%1000000000],?_,hown,by omega,?_,(h5.alloc hB o).grown hg (by simp;omega) (fun b e=>hvB b e)⟩
 · intro y hy
   rcases List.mem_append.1 hy with h | h
   · exact h1 y h
   · simp at h;subst h;exact Nat.mod_lt _ (by omega)
 · rw[lv_append,hl,lo_succ,lo_succ,Nat.pow_succ];simp only[lv,Nat.mul_zero,Nat.add_zero];exact add_step h4 rfl
theorem cast_rem3 (a b c:Nat):((a:Int)+b+c)%1000000000=(((a+b+c)%1000000000:Nat):Int):=by
 rw[Int.natCast_emod,Int.natCast_add,Int.natCast_add];rfl
theorem cast_quo3 (a b c:Nat):((a:Int)+b+c)/1000000000=(((a+b+c)/1000000000:Nat):Int):=by
 rw[Int.natCast_ediv,Int.natCast_add,Int.natCast_add];rfl
theorem cast_rem2 (a b:Nat):((a:Int)+b)%1000000000=(((a+b)%1000000000:Nat):Int):=by
 rw[Int.natCast_emod,Int.natCast_add];rfl
theorem cast_quo2 (a b:Nat):((a:Int)+b)/1000000000=(((a+b)/1000000000:Nat):Int):=by
 rw[Int.natCast_ediv,Int.natCast_add];rfl
theorem add_end {B:Nat} {w wr w':World} {xs ys zs:List Nat} {v v':Value} {c:Nat} {x:Int} (h1:InR zs) (h2:Own 150 B wr v xs.length zs) (h3:c≤1)
 (h4:lv zs+c*1000000000^xs.length=lo xs xs.length+lo ys xs.length) (h5:Below B w wr) (hyl:ys.length≤xs.length) (hB:B≤wr.heap.size) {o:Obj}
 (hown:w'.ownsRow B 150 1 v' (xs.length+1) (lvals zs++[Value.int .u64 x])) (hg:(wr.alloc o).grownBy w' v.ownBlock) (hvB:∀b,v.ownBlock=some b→B≤b) (hxe:x=(c:Int)) :
 ∃us,InR us∧Sl w' v' us∧us.length=xs.length+1∧lv us=lv xs+lv ys∧Below B w w':=by
 subst hxe;rw[lvals_snoc]at hown;have hl:=h2.len;have ho:Own 150 B w' v' (xs.length+1) (zs++[c]):=hown;refine⟨zs++[c],?_,ho.sl,ho.len,?_,(h5.alloc hB o).grown hg (by simp;omega) (fun b e=>hvB b e)⟩
 · intro y hy
   rcases List.mem_append.1 hy with h | h
   · exact h1 y h
   · simp at h;omega
 · rw[lo_all _ _ (Nat.le_refl _),lo_all _ _ hyl]at h4;rw[lv_append,hl];simp only[lv,Nat.mul_zero,Nat.add_zero];have:c*1000000000^xs.length=1000000000^xs.length*c:=Nat.mul_comm _ _;omega
def RelAddAt (B:Nat) (w:World) (xs ys:List Nat) (g cap:Nat) (out carry i:Value) (wr:World):Prop :=
 ∃k c:Nat,k≤xs.length∧i=.int .i64 k∧carry=.int .u64 c∧out=.slice (some ⟨g,0,none⟩) k cap∧RelAdd B w xs ys out k c wr
theorem add_walk (w:World) (a:Option Addr) (cap:Nat) (xs:List Nat) (c:Option Addr) (cap':Nat) (ys:List Nat) (hl:xs.length≤1000) (hyl:ys.length≤xs.length)
 (hx:InR xs) (hy:InR ys)
 (ha:xs≠[]→∃b off,a=some ⟨b,off,none⟩∧b<w.heap.size∧∀i,i<xs.length→w.cell? ⟨b,off+i,none⟩=some (.int .u64 (lim xs i)))
 (hc:ys≠[]→∃b off,c=some ⟨b,off,none⟩∧b<w.heap.size∧∀i,i<ys.length→w.cell? ⟨b,off+i,none⟩=some (.int .u64 (lim ys i))) :
 Calls Tryz.prog 160 #[.slice a xs.length cap,.slice c ys.length cap'] w (PostNumV w.heap.size w (lv xs+lv ys)):=by
 obtain⟨i0,hi,hz0,hz1,hz2⟩:=info_parts infoU;have hlt:¬xs.length<ys.length:=by omega
 go_enter Tryz.func160,Tryz.ntmps160
 go_wp2_with (at_make;refine wpList_make_own _ rfl _ _ 157 rfl w.heap.size 150 i0 (.int .u64 0) 1 Tryz.underlying157 hi hz0 hz1 _ _ _ (xs.length+1) rfl rfl (by omega) (by rw[hz2];omega) (by unfold maxLen;omega) (Nat.le_refl _) ?_;intro w1 hown1 hgr1)
 go_loopw [5,6,22] (fun out carry i wr=>RelAddAt w.heap.size w xs ys w.heap.size (xs.length+1) out carry i wr)
  (fun _ _ i _=>xs.length-(intOf i).toNat)
 case atStart=>exact⟨0,0,Nat.zero_le _,rfl,rfl,rfl,[],(fun x hx=>absurd hx (by simp)),hown1,Nat.zero_le _,by simp[lo_zero,lv],(Below.refl _ _).grown hgr1 (Nat.le_refl _) (fun k h=>by cases h)⟩
 case round =>
  obtain⟨k,b,hk,rfl,rfl,rfl,zs,z1,z2,z3,z4,z5⟩:=hrel;have hsz:=z5.size
  by_cases hkn:k<xs.length
  · obtain ⟨bx,ox,hax,hbx,hcx⟩:=ha (by intro e;simp[e]at hkn);have hcxk:=(z5.cell (p:=⟨bx,ox+k,none⟩) hbx).trans (hcx k hkn);have hxk:=hx.lim k;have hyk:=hy.lim k;subst hax;clear hcx ha hown1 hgr1
    by_cases hky:k<ys.length
    · obtain⟨b2,oy,hay,hby,hcy⟩:=hc (by intro e;simp[e]at hky);subst hay;have hcyk:=z5.cell (p:=⟨b2,oy+k,none⟩) hby |>.trans (hcy k hky)
      replace z1:=Lib.hid z1;replace z4:=Lib.hid z4;replace z5:=Lib.hid z5;replace hx:=Lib.hid hx;replace hy:=Lib.hid hy;have HO:=z2;clear hc hcy
      go_wp2_with (at_builtin;refine wpList_append_fits _ rfl _ _ 157 rfl w.heap.size 150 i0 1 Tryz.underlying157 hi hz1 w.heap.size k (xs.length+1) (lvals zs) rfl (HO.alloc _) ⟨wr.heap.size,0,none⟩ 1 1 [.int .u64 (((lim xs k:Int)+b+lim ys k)%1000000000)] rfl rfl (one_new _ _ _) (one_cell _ _) (by omega) ?_;intro w2 hown2 hgr2)
      refine⟨⟨k+1,(lim xs k+b+lim ys k)/1000000000,by omega,by go_num,congrArg (Value.int .u64) (cast_quo3 _ _ _),rfl,?_⟩,by simp only[intOf];omega⟩;exact add_rel z1.out z2 z3 z4.out z5.out hx.out hy.out hsz hown2 hgr2 (fun b e=>by cases e;exact Nat.le_refl _) (cast_rem3 _ _ _)
    · have HY0:=Lib.hid (lim_ge ys k (by omega));replace z1:=Lib.hid z1;replace z4:=Lib.hid z4;replace z5:=Lib.hid z5;replace hx:=Lib.hid hx;replace hy:=Lib.hid hy;have HO:=z2;clear hc hyk
      go_wp2_with (at_builtin;refine wpList_append_fits _ rfl _ _ 157 rfl w.heap.size 150 i0 1 Tryz.underlying157 hi hz1 w.heap.size k (xs.length+1) (lvals zs) rfl (HO.alloc _) ⟨wr.heap.size,0,none⟩ 1 1 [.int .u64 (((lim xs k:Int)+b)%1000000000)] rfl rfl (one_new _ _ _) (one_cell _ _) (by omega) ?_;intro w2 hown2 hgr2)
      have e0:=HY0.out;refine⟨⟨k+1,(lim xs k+b+lim ys k)/1000000000,by omega,by go_num,?_,rfl,?_⟩,by simp only[intOf];omega⟩
      · rw[e0,Nat.add_zero];exact congrArg (Value.int .u64) (cast_quo2 _ _)
      · exact add_rel z1.out z2 z3 z4.out z5.out hx.out hy.out hsz hown2 hgr2 (fun b e=>by cases e;exact Nat.le_refl _) (by rw[e0,Nat.add_zero];exact cast_rem2 _ _)
  · obtain rfl:k=xs.length:=by omega
    replace z1:=Lib.hid z1;replace z4:=Lib.hid z4;replace z5:=Lib.hid z5;have HO:=z2;clear ha hc hx hy hown1 hgr1
    go_wp2_with (at_builtin;refine wpList_append_fits _ rfl _ _ 157 rfl w.heap.size 150 i0 1 Tryz.underlying157 hi hz1 w.heap.size xs.length (xs.length+1) (lvals zs) rfl (HO.alloc _) ⟨wr.heap.size,0,none⟩ 1 1 [.int .u64 (b:Int)] rfl rfl (one_new _ _ _) (one_cell _ _) (by omega) ?_;intro w2 hown2 hgr2)
    obtain⟨us,u1,u2,u3,u4,u5⟩:=add_end z1.out z2 z3 z4.out z5.out (by omega) hsz hown2 hgr2 (fun b e=>by cases e;exact Nat.le_refl _) rfl;have U3:=Lib.hid u3;have U4:=Lib.hid u4;clear u3 u4 hown2 hgr2;refine(trim_any _ _ us (by have:=U3.out;omega) u2).mono ?_;rintro e w' ⟨v,k,rfl,ht,hs,hf,rfl⟩;go_wp2;go_ret;exact⟨v,rfl,⟨us.take k,ht.canon u1,by rw[ht.lv,U4.out],hs⟩,hf _ (Nat.le_refl _),u5⟩
theorem add_walk_swap (w:World) (a:Option Addr) (cap:Nat) (xs:List Nat) (c:Option Addr) (cap':Nat) (ys:List Nat) (hl:xs.length≤1000) (hyl:ys.length<xs.length)
 (hx:InR xs) (hy:InR ys)
 (ha:xs≠[]→∃b off,a=some ⟨b,off,none⟩∧b<w.heap.size∧∀i,i<xs.length→w.cell? ⟨b,off+i,none⟩=some (.int .u64 (lim xs i)))
 (hc:ys≠[]→∃b off,c=some ⟨b,off,none⟩∧b<w.heap.size∧∀i,i<ys.length→w.cell? ⟨b,off+i,none⟩=some (.int .u64 (lim ys i))) :
 Calls Tryz.prog 160 #[.slice c ys.length cap',.slice a xs.length cap] w (PostNumV w.heap.size w (lv xs+lv ys)):=by
 obtain⟨i0,hi,hz0,hz1,hz2⟩:=info_parts infoU;have hlt:ys.length<xs.length:=hyl;go_enter Tryz.func160,Tryz.ntmps160
 go_wp2_with (at_make;refine wpList_make_own _ rfl _ _ 157 rfl w.heap.size 150 i0 (.int .u64 0) 1 Tryz.underlying157 hi hz0 hz1 _ _ _ (xs.length+1) rfl rfl (by omega) (by rw[hz2];omega) (by unfold maxLen;omega) (Nat.le_refl _) ?_;intro w1 hown1 hgr1)
 go_loopw [5,6,22] (fun out carry i wr=>RelAddAt w.heap.size w xs ys w.heap.size (xs.length+1) out carry i wr)
  (fun _ _ i _=>xs.length-(intOf i).toNat)
 case atStart=>exact⟨0,0,Nat.zero_le _,rfl,rfl,rfl,[],(fun x hx=>absurd hx (by simp)),hown1,Nat.zero_le _,by simp[lo_zero,lv],(Below.refl _ _).grown hgr1 (Nat.le_refl _) (fun k h=>by cases h)⟩
 case round =>
  obtain⟨k,b,hk,rfl,rfl,rfl,zs,z1,z2,z3,z4,z5⟩:=hrel;have hsz:=z5.size
  by_cases hkn:k<xs.length
  · obtain ⟨bx,ox,hax,hbx,hcx⟩:=ha (by intro e;simp[e]at hkn);have hcxk:=(z5.cell (p:=⟨bx,ox+k,none⟩) hbx).trans (hcx k hkn);have hxk:=hx.lim k;have hyk:=hy.lim k;subst hax;clear hcx ha hown1 hgr1
    by_cases hky:k<ys.length
    · obtain⟨b2,oy,hay,hby,hcy⟩:=hc (by intro e;simp[e]at hky);subst hay;have hcyk:=z5.cell (p:=⟨b2,oy+k,none⟩) hby |>.trans (hcy k hky)
      replace z1:=Lib.hid z1;replace z4:=Lib.hid z4;replace z5:=Lib.hid z5;replace hx:=Lib.hid hx;replace hy:=Lib.hid hy;have HO:=z2;clear hc hcy
      go_wp2_with (at_builtin;refine wpList_append_fits _ rfl _ _ 157 rfl w.heap.size 150 i0 1 Tryz.underlying157 hi hz1 w.heap.size k (xs.length+1) (lvals zs) rfl (HO.alloc _) ⟨wr.heap.size,0,none⟩ 1 1 [.int .u64 (((lim xs k:Int)+b+lim ys k)%1000000000)] rfl rfl (one_new _ _ _) (one_cell _ _) (by omega) ?_;intro w2 hown2 hgr2)
      refine⟨⟨k+1,(lim xs k+b+lim ys k)/1000000000,by omega,by go_num,congrArg (Value.int .u64) (cast_quo3 _ _ _),rfl,?_⟩,by simp only[intOf];omega⟩;exact add_rel z1.out z2 z3 z4.out z5.out hx.out hy.out hsz hown2 hgr2 (fun b e=>by cases e;exact Nat.le_refl _) (cast_rem3 _ _ _)
    · have HY0:=Lib.hid (lim_ge ys k (by omega));replace z1:=Lib.hid z1;replace z4:=Lib.hid z4;replace z5:=Lib.hid z5;replace hx:=Lib.hid hx;replace hy:=Lib.hid hy;have HO:=z2;clear hc hyk
      go_wp2_with (at_builtin;refine wpList_append_fits _ rfl _ _ 157 rfl w.heap.size 150 i0 1 Tryz.underlying157 hi hz1 w.heap.size k (xs.length+1) (lvals zs) rfl (HO.alloc _) ⟨wr.heap.size,0,none⟩ 1 1 [.int .u64 (((lim xs k:Int)+b)%1000000000)] rfl rfl (one_new _ _ _) (one_cell _ _) (by omega) ?_;intro w2 hown2 hgr2)
      have e0:=HY0.out;refine⟨⟨k+1,(lim xs k+b+lim ys k)/1000000000,by omega,by go_num,?_,rfl,?_⟩,by simp only[intOf];omega⟩
      · rw[e0,Nat.add_zero];exact congrArg (Value.int .u64) (cast_quo2 _ _)
      · exact add_rel z1.out z2 z3 z4.out z5.out hx.out hy.out hsz hown2 hgr2 (fun b e=>by cases e;exact Nat.le_refl _) (by rw[e0,Nat.add_zero];exact cast_rem2 _ _)
  · obtain rfl:k=xs.length:=by omega
    replace z1:=Lib.hid z1;replace z4:=Lib.hid z4;replace z5:=Lib.hid z5;have HO:=z2;clear ha hc hx hy hown1 hgr1
    go_wp2_with (at_builtin;refine wpList_append_fits _ rfl _ _ 157 rfl w.heap.size 150 i0 1 Tryz.underlying157 hi hz1 w.heap.size xs.length (xs.length+1) (lvals zs) rfl (HO.alloc _) ⟨wr.heap.size,0,none⟩ 1 1 [.int .u64 (b:Int)] rfl rfl (one_new _ _ _) (one_cell _ _) (by omega) ?_;intro w2 hown2 hgr2)
    obtain⟨us,u1,u2,u3,u4,u5⟩:=add_end z1.out z2 z3 z4.out z5.out (by omega) hsz hown2 hgr2 (fun b e=>by cases e;exact Nat.le_refl _) rfl;have U3:=Lib.hid u3;have U4:=Lib.hid u4;clear u3 u4 hown2 hgr2;refine(trim_any _ _ us (by have:=U3.out;omega) u2).mono ?_;rintro e w' ⟨v,k,rfl,ht,hs,hf,rfl⟩;go_wp2;go_ret;exact⟨v,rfl,⟨us.take k,ht.canon u1,by rw[ht.lv,U4.out],hs⟩,hf _ (Nat.le_refl _),u5⟩
theorem add_any (w:World) (v u:Value) (n m:Nat) (hn:Num w v n) (hm:Num w u m) (hbn:Small n) (hbm:Small m) :
 Calls Tryz.prog 160 #[v,u] w (PostNumV w.heap.size w (n+m)):=by
 obtain⟨xs,hx,rfl,hsx⟩:=hn;obtain⟨ys,hy,rfl,hsy⟩:=hm;have hl:=hx.len_le (k:=200) hbn;have hyl:=hy.len_le (k:=200) hbm;obtain⟨a,cap,rfl,ha⟩:=hsx.addr;obtain⟨c,cap',rfl,hc⟩:=hsy.addr
 by_cases h:ys.length≤xs.length
 · exact add_walk w a cap xs c cap' ys (by omega) h hx.1 hy.1 ha hc
 · rw[Nat.add_comm];exact add_walk_swap w c cap' ys a cap xs (by omega) (by omega) hy.1 hx.1 hc ha
end Nt
end
section
open Go.RowKit Go.Shelf
attribute [local go_sem] Oper.semAt_some
namespace Nt
def cmpN (x y:Nat):Int:=if x<y then -1 else if y<x then 1 else 0
theorem cmpU (x y:Nat) (w:World) :
 Calls Tryz.prog 184 #[.int .u64 (x:Int),.int .u64 (y:Int)] w fun e w'=>e=.returned (.int .i64 (cmpN x y))∧w=w':=by
 have h:x<y∨(¬x<y∧y<x)∨(¬x<y∧¬y<x):=by omega
 unfold cmpN
 rcases h with h | ⟨h,h'⟩ | ⟨h,h'⟩
 all_goals
  go_enter Tryz.func184,Tryz.ntmps184;go_wp2;go_ret
  simp_all
theorem cmpI (x y:Nat) (w:World) :
 Calls Tryz.prog 182 #[.int .i64 (x:Int),.int .i64 (y:Int)] w fun e w'=>e=.returned (.int .i64 (cmpN x y))∧w=w':=by
 have h:x<y∨(¬x<y∧y<x)∨(¬x<y∧¬y<x):=by omega
 unfold cmpN
 rcases h with h | ⟨h,h'⟩ | ⟨h,h'⟩
 all_goals
  go_enter Tryz.func182,Tryz.ntmps182;go_wp2;go_ret
  simp_all
theorem cmpI_same (x:Nat) (w:World) :
 Calls Tryz.prog 182 #[.int .i64 (x:Int),.int .i64 (x:Int)] w fun e w'=>e=.returned (.int .i64 0)∧w=w':=by
 go_enter Tryz.func182,Tryz.ntmps182;go_wp2;go_ret;exact⟨rfl,rfl⟩
theorem cmpU_same (x:Nat) (w:World) :
 Calls Tryz.prog 184 #[.int .u64 (x:Int),.int .u64 (x:Int)] w fun e w'=>e=.returned (.int .i64 0)∧w=w':=by
 go_enter Tryz.func184,Tryz.ntmps184;go_wp2;go_ret;exact⟨rfl,rfl⟩
theorem cmpN_lt {x y:Nat} (h:x<y):cmpN x y=-1:=by simp[cmpN,h]
theorem cmpN_gt {x y:Nat} (h:y<x):cmpN x y=1:=by unfold cmpN;rw[if_neg (by omega),if_pos h]
theorem cmpN_eq (x:Nat):cmpN x x=0:=by simp[cmpN]
theorem cmpN_zero {x y:Nat} (h:cmpN x y=0):x=y:=by
 unfold cmpN at h
 split at h
 · cases h
 · split at h
   · cases h
   · omega
theorem KeepsOthers.of_below {W W':World} (h:Below W.heap.size W W'):KeepsOthers W W' :=
 ⟨h.size,fun k _ hk _=>(h.block k (Array.getElem?_eq_some_iff.1 hk).1).trans hk⟩
theorem compare_len (w:World) (a:Option Addr) (n cap:Nat) (c:Option Addr) (m cap':Nat) (hne:n≠m) :
 Calls Tryz.prog 162 #[.slice a n cap,.slice c m cap'] w fun e w'=>e=.returned (.int .i64 (cmpN n m))∧Below w.heap.size w w':=by
 have hc0:(cmpN n m != 0)=true:=by
  rw[bne_iff_ne];intro h;exact hne (cmpN_zero h)
 go_enter Tryz.func162,Tryz.ntmps162
 go_wp2_with (go_at_call 182;refine(cmpI n m _).mono ?_;rintro e w' ⟨rfl,rfl⟩)
 refine bodyPost_ret (v:=.int .i64 (cmpN n m)) (by simp[results,Tryz.results162,go_sem]) rfl ⟨rfl,?_⟩;exact((Below.refl _ w).alloc (Nat.le_refl _) _).alloc (by simp) _
theorem mem_back {n:Nat} (k:Nat) (hk:k≤n) (p:Place n):p∈back n k↔n-k≤p.1:=by
 induction k with
 | zero=>simp[back_zero];omega
 | succ k ih =>
   rw[back_succ n k (by omega),List.mem_append,ih (by omega)];simp only[List.mem_cons,List.not_mem_nil,or_false];constructor
   · rintro(h | h)
     · omega
     · have hv:=congrArg Subtype.val h;dsimp only at hv;omega
   · intro h
     by_cases e:p.1=n-1-k
     · right;exact Subtype.ext e
     · left;omega
theorem lv_above {xs ys:List Nat} (he:xs.length=ys.length) (k:Nat) (hk:k≤xs.length) (h:∀j,k≤j→j<xs.length→lim xs j=lim ys j):lv xs+lo ys k=lv ys+lo xs k:=by
 obtain⟨d,hd⟩:∃d,k+d=xs.length:=⟨xs.length-k,by omega⟩
 induction d generalizing k with
 | zero=>rw[lo_all ys k (by omega),lo_all xs k (by omega)];omega
 | succ d ih =>
   have:=ih (k+1) (by omega) (fun j h1 h2=>h j (by omega) h2) (by omega);rw[lo_succ,lo_succ,h k (Nat.le_refl _) (by omega)]at this;omega
theorem eq_of_back {xs ys:List Nat} (he:xs.length=ys.length) (h:∀p:Place xs.length,p∈back xs.length xs.length→lim xs p.1=lim ys p.1):lv xs=lv ys:=by
 have:=lv_above he 0 (Nat.zero_le _) (fun j _ hj=>h ⟨j,hj⟩ ((mem_back _ (Nat.le_refl _) _).2 (by simp)));rw[lo_zero,lo_zero]at this;omega
theorem lt_of_limb {A a B b P x y:Nat} (h:A+(b+P*y)=B+(a+P*x)) (ha:a<P) (hxy:x<y):A<B:=by
 have:P*(x+1)≤P*y:=Nat.mul_le_mul_left _ hxy;rw[Nat.mul_add]at this;omega
theorem cmp_of_back {xs ys:List Nat} (he:xs.length=ys.length) (hx:InR xs) (hy:InR ys) {k:Nat} (hk:k≤xs.length) {pre:List (Place xs.length)} {x:Place xs.length} (hp:back xs.length k=pre++[x])
 (hall:∀p:Place xs.length,p∈pre→lim xs p.1=lim ys p.1) (hne:lim xs x.1≠lim ys x.1):cmpN (lv xs) (lv ys)=cmpN (lim xs x.1) (lim ys x.1):=by
 cases k with
 | zero=>rw[back_zero]at hp;simp at hp
 | succ k =>
   rw[back_succ _ _ (by omega)]at hp;obtain⟨h1,h2⟩:=List.append_inj' hp rfl;simp only[List.cons.injEq,and_true]at h2;subst h1;have hv:xs.length-1-k=x.1:=congrArg Subtype.val h2;rw[←hv]at hne ⊢;clear h2 hp hv;have:=lv_above he (xs.length-1-k+1) (by omega) (fun j h1 h2=>hall ⟨j,h2⟩ ((mem_back k (by omega) _).2 (by simp;omega)));rw[lo_succ,lo_succ]at this;have a1:=lo_lt hx (xs.length-1-k);have a2:=lo_lt hy (xs.length-1-k)
   rcases Nat.lt_or_ge (lim xs (xs.length-1-k)) (lim ys (xs.length-1-k)) with h | h
   · rw[cmpN_lt h,cmpN_lt (lt_of_limb this a1 h)]
   · have h':lim ys (xs.length-1-k)<lim xs (xs.length-1-k):=by omega
     rw[cmpN_gt h',cmpN_gt (lt_of_limb this.symm a2 h')]
theorem compare_eq (w:World) (a:Option Addr) (cap:Nat) (xs:List Nat) (c:Option Addr) (cap':Nat) (ys:List Nat) (he:xs.length=ys.length) (hl:xs.length≤1000000) (hx:Hid (InR xs)) (hy:Hid (InR ys)) (b:Nat) (hb:b<w.heap.size)
 (ha:SlAt w b (.slice a xs.length cap) xs)
 (hc:ys≠[]→∃b off,c=some ⟨b,off,none⟩∧b<w.heap.size∧∀i,i<ys.length→w.cell? ⟨b,off+i,none⟩=some (.int .u64 (lim ys i))) :
 Calls Tryz.prog 162 #[.slice a xs.length cap,.slice c ys.length cap'] w fun e w'=>e=.returned (.int .i64 (cmpN (lv xs) (lv ys)))∧Below w.heap.size w w':=by
 have HEQ:=Lib.hid he;refine(callsIn_wide (n:=9)).1 ?_;refine callsIn_of_wp_marks Tryz.func162 rfl trivial ?_ rfl;simp only[Tryz.ntmps162,List.size_toArray,List.length_cons,List.length_nil,Nat.reduceAdd,Nat.reduceSub,Array.replicate_succ,Array.replicate_zero,List.push_toArray,List.append_toArray,List.nil_append,List.cons_append];rw[←he];have HE:=Lib.hid he;clear he
 gi_wp2_with (first
  | (refine⟨trivial,?_⟩;gi_at_call 182;refine(callsIn_wide.2 (cmpI_same xs.length _)).mono ?_;rintro e w' ⟨rfl,rfl⟩)
  | (gi_at_call 182;refine(callsIn_wide.2 (cmpI_same xs.length _)).mono ?_;rintro e w' ⟨rfl,rfl⟩)
  | (refine⟨trivial,?_⟩;gi_at_call 183;refine(back_make Fence.wide _ trivial rfl _ _ _ _).mono ?_;rintro e w' ⟨rfl,rfl⟩)
  | (gi_at_call 183;refine(back_make Fence.wide _ trivial rfl _ _ _ _).mono ?_;rintro e w' ⟨rfl,rfl⟩))
 have hB1:Below w.heap.size w (((w.alloc (.cells #[.slice c xs.length cap'] 157)).alloc (.cells #[.int .i64 0] 3)).alloc (.cells #[.slice a xs.length cap] 157)) :=
  (((Below.refl _ w).alloc (Nat.le_refl _) _).alloc (by simp) _).alloc (by simp;omega) _
 have hm:(((w.alloc (.cells #[.slice c xs.length cap'] 157)).alloc (.cells #[.int .i64 0] 3)).alloc (.cells #[.slice a xs.length cap] 157)).cell? ⟨w.heap.size,0,none⟩=some (.slice c xs.length cap'):=by go_simp
 have hr:(((w.alloc (.cells #[.slice c xs.length cap'] 157)).alloc (.cells #[.int .i64 0] 3)).alloc (.cells #[.slice a xs.length cap] 157)).cell? ⟨w.heap.size+1,0,none⟩=some (.int .i64 0):=by go_simp
 have hrf:(((w.alloc (.cells #[.slice c xs.length cap'] 157)).alloc (.cells #[.int .i64 0] 3)).alloc (.cells #[.slice a xs.length cap] 157)).frozen? ⟨w.heap.size+1,0,none⟩=false:=by go_simp
 have hbx:(((w.alloc (.cells #[.slice c xs.length cap'] 157)).alloc (.cells #[.int .i64 0] 3)).alloc (.cells #[.slice a xs.length cap] 157)).cell? ⟨w.heap.size+1+1,0,none⟩=some (.slice a xs.length cap):=by go_simp
 have hsz:(((w.alloc (.cells #[.slice c xs.length cap'] 157)).alloc (.cells #[.int .i64 0] 3)).alloc (.cells #[.slice a xs.length cap] 157)).heap.size=w.heap.size+3:=by simp
 generalize (((w.alloc (.cells #[.slice c xs.length cap'] 157)).alloc (.cells #[.int .i64 0] 3)).alloc (.cells #[.slice a xs.length cap] 157))=W1 at hB1 hm hr hrf hbx hsz ⊢
 have hcs:∀i,i<xs.length→∃b off,c=some ⟨b,off,none⟩∧W1.cell? ⟨b,off+i,none⟩=some (.int .u64 (lim ys i))∧b<W1.heap.size:=fun i hi=>by
  have e:=HE.out;obtain⟨b2,o2,h1,h2,h3⟩:=hc (by intro e2;rw[e2]at e;simp only[List.length_nil]at e;omega);exact⟨b2,o2,h1,(hB1.cell (p:=⟨b2,o2+i,none⟩) h2).trans (h3 i (by omega)),by omega⟩
 have hsl:SlAt W1 b (.slice a xs.length cap) xs:=ha.keep (c:=b) (Keep2.of_below hB1 hb hb);clear hc ha HE
 refine wpIn_rangeFunc_ownF rfl (by decide) (gf:=211) (lb:=#[.pointer (some ⟨w.heap.size+1+1,0,none⟩)]) rfl trivial (enters_of Tryz.func211 (by kernel_rfl) rfl)
  (back_stops Fence.wide _ trivial rfl (by decide) (w.heap.size+1+1) b _ xs hl W1 (by omega) (by omega) hbx hsl) (fun h k=>h.trans k)
  (fun W l o o' hl h ho hw=>?kb) (Below.refl _ _) (fun _=>rfl)
  (fun pre W=>(∀p∈pre,lim xs p.1=lim ys p.1)∧Below W1.heap.size W1 W)
  (fun c pre W=>c=.ret∧∃x pre',pre=pre'++[x]∧(∀p∈pre',lim xs p.1=lim ys p.1)∧lim xs x.1≠lim ys x.1∧W.cell? ⟨w.heap.size+1,0,none⟩=some (.int .i64 (cmpN (lim xs x.1) (lim ys x.1)))∧Below w.heap.size w W)
  (OwnFrom.and (ownFrom_pure _ _) (ownFrom_below (Nat.le_refl _) (Nat.le_refl _)))
  (fun c s A B row hs hg hr'=>?ix)
  ⟨by simp,Below.refl _ _⟩
  (fun x=>{ tmps:=#[.slice a xs.length cap,.slice c xs.length cap',undef,.pointer (some ⟨w.heap.size,0,none⟩),.pointer (some ⟨w.heap.size+1,0,none⟩),.int .i64 0,.int .i64 (x.1:Int),.int .u64 (lim xs x.1),undef,
    .slice a xs.length cap,.int .i64 xs.length,.slice c xs.length cap',.int .i64 xs.length,.int .i64 0,.int .i64 0,.bool false,undef,.slice a xs.length cap,
    .func (.func 211) #[] #[.pointer (some ⟨w.heap.size+1+1,0,none⟩)],.int .i64 (x.1:Int),.int .u64 (lim xs x.1),undef,undef,undef,undef,undef,undef,undef,undef,undef],defers:=[] })
  ?assign ?body ?done ?stop
 case kb =>
  have h1:=(Array.getElem?_eq_some_iff.1 h).1;exact⟨World.putObj_heap_other (by omega),World.putObj_heap_other (by omega)⟩
 case ix =>
  obtain⟨e,x,pre',e1,e2,e3,e4,e5⟩:=hs;refine⟨e,x,pre',e1,e2,e3,cell_kept e4 hg (fun r e=>(hr' r e).2),e5.grown hg e5.size (fun k e=>?_)⟩;have:=(hr' k e).1;omega
 case assign =>
  intro l x W K hK
  gi_wp2
  exact hK
 case body =>
  rintro l pre x W ⟨hpre,hbW⟩ hlen;have hmW:=(hbW.cell (p:=⟨w.heap.size,0,none⟩) (by simp;omega)).trans hm;have hrW:=(hbW.cell (p:=⟨w.heap.size+1,0,none⟩) (by simp;omega)).trans hr;have hrfW:=(hbW.frozen (p:=⟨w.heap.size+1,0,none⟩) (by simp;omega)).trans hrf;obtain⟨b2,o2,hc2,hcc,hb2⟩:=hcs x.1 x.2;have hccW:=(hbW.cell (p:=⟨b2,o2+x.1,none⟩) hb2).trans hcc;obtain⟨i,hi⟩:=x;dsimp only at hccW ⊢;subst hc2;have HP:=Lib.hid hpre;have HB:=Lib.hid hbW;have HB1:=Lib.hid hB1;clear hpre hbW hB1 hcs hsl hm hr hrf hbx hcc
  by_cases hq:lim xs i=lim ys i
  · have HQ:=Lib.hid hq;rw[←hq]at hccW;clear hq
    gi_wp2_with (first
     | (refine⟨trivial,?_⟩;gi_at_call 184;refine(CallsIn.inRound l (callsIn_wide.2 (cmpU_same (lim xs i) _))).mono ?_;rintro e w' ⟨rfl,rfl⟩)
     | (gi_at_call 184;refine(CallsIn.inRound l (callsIn_wide.2 (cmpU_same (lim xs i) _))).mono ?_;rintro e w' ⟨rfl,rfl⟩))
    refine⟨KeepsOthers.of_below (Below.refl _ _),Keep2.refl _ _ _,?_,HB.out⟩;intro p hp
    rcases List.mem_append.1 hp with h | h
    · exact HP.out p h
    · simp only[List.mem_cons,List.not_mem_nil,or_false]at h;subst h;exact HQ.out
  · have hc0:(cmpN (lim xs i) (lim ys i) != 0)=true:=by rw[bne_iff_ne];intro h;exact hq (cmpN_zero h)
    have HQ:=Lib.hid hq;clear hq
    gi_wp2_with (first
     | (refine⟨trivial,?_⟩;gi_at_call 184;refine(CallsIn.inRound l (callsIn_wide.2 (cmpU (lim xs i) (lim ys i) _))).mono ?_;rintro e w' ⟨rfl,rfl⟩)
     | (gi_at_call 184;refine(CallsIn.inRound l (callsIn_wide.2 (cmpU (lim xs i) (lim ys i) _))).mono ?_;rintro e w' ⟨rfl,rfl⟩))
    exact⟨KeepsOthers.setCell _ _ _,rfl,⟨i,hi⟩,pre,rfl,HP.out,HQ.out,World.cell?_setCell_same' _ _ _ (by rw[hrW];rfl),(HB1.out.trans (HB.out.mono (by omega))).setCell (by simp) _⟩
 case done =>
  rintro D zs W hD rfl ⟨hall,hbW⟩ hK;have hrW:=(hbW.cell (p:=⟨w.heap.size+1,0,none⟩) (by simp;omega)).trans hr;have hrfW:=(hbW.frozen (p:=⟨w.heap.size+1,0,none⟩) (by simp;omega)).trans hrf;have HA:=Lib.hid hall;have HB:=Lib.hid (hB1.trans (hbW.mono (by omega)));clear hall hbW hB1 hcs hsl hm hr hrf hbx
  gi_wp2
  refine⟨by simp,.inl ⟨_,_,rfl,run_takeDeferred (((KeepsOthers.setCell W ⟨w.heap.size+1,0,none⟩ (.int .i64 0)).same D _ hK rfl)),?_⟩⟩
  have hcR:((W.setCell ⟨w.heap.size+1,0,none⟩ (.int .i64 0)).putObj D (.deferred none)).cell? ⟨w.heap.size+1,0,none⟩=some (.int .i64 0) :=
   cell_kept (World.cell?_setCell_same' _ _ _ (by rw[hrW];rfl)) (grownBy_putObj' _ D (.deferred none)) (fun r e=>by cases e;exact⟨_,(KeepsOthers.setCell W ⟨w.heap.size+1,0,none⟩ (.int .i64 0)).same D _ hK rfl,rfl⟩)
  have hall:lv xs=lv ys:=eq_of_back HEQ.out HA.out;rw[hall,cmpN_eq];refine⟨.int .i64 0,by simp[results,Tryz.results162,go_sem,hcR],rfl,?_⟩;exact(HB.out.setCell (p:=⟨w.heap.size+1,0,none⟩) (by simp) _).grown (grownBy_putObj' _ D _) (by have:=HB.out.size;simp[World.setCell];omega) (fun k e=>by cases e;omega)
 case stop =>
  rintro D c pre W hD ⟨k,hk,hpre⟩ ⟨rfl,x,pre',h1,h2,h3,h4,h5⟩ hK;have H2:=Lib.hid h2;have H3:=Lib.hid h3;have H5:=Lib.hid h5;have HPR:=Lib.hid (hpre.symm.trans h1);clear h2 h3 h5 hpre h1 hB1 hcs hsl hm hr hrf hbx
  gi_wp2
  refine⟨by simp,.inl ⟨_,_,rfl,run_takeDeferred hK,?_⟩⟩
  have hcR:(W.putObj D (.deferred none)).cell? ⟨w.heap.size+1,0,none⟩=some (.int .i64 (cmpN (lim xs x.1) (lim ys x.1))) :=
   cell_kept h4 (grownBy_putObj' _ D (.deferred none)) (fun r e=>by cases e;exact⟨_,hK,rfl⟩)
  rw[cmp_of_back HEQ.out hx.out hy.out hk HPR.out H2.out H3.out];refine⟨.int .i64 (cmpN (lim xs x.1) (lim ys x.1)),by simp[results,Tryz.results162,go_sem,hcR],rfl,?_⟩;exact H5.out.grown (grownBy_putObj' _ D _) H5.out.size (fun k e=>by cases e;omega)
theorem SlAt.of {w:World} {v:Value} {xs:List Nat} (h:Sl w v xs) (h0:0<w.heap.size):∃b,b<w.heap.size∧SlAt w b v xs:=by
 rcases h.shape with⟨rfl,rfl⟩ | ⟨b,off,cap,rfl,hb,_,hc⟩
 · exact⟨0,h0,.inl ⟨rfl,0,rfl⟩⟩
 · exact⟨b,hb,.inr ⟨off,cap,rfl,hc⟩⟩
theorem compare_any (w:World) (v u:Value) (n m:Nat) (hn:Num w v n) (hm:Num w u m) (hbn:Small n) (h0:0<w.heap.size) :
 Calls Tryz.prog 162 #[v,u] w fun e w'=>e=.returned (.int .i64 (cmpN n m))∧Below w.heap.size w w':=by
 obtain⟨xs,hx,rfl,hsx⟩:=hn;obtain⟨ys,hy,rfl,hsy⟩:=hm;have hl:=hx.len_le (k:=200) hbn
 by_cases he:xs.length=ys.length
 · obtain⟨b,hb,hat⟩:=SlAt.of hsx h0;obtain⟨a,cap,rfl,_⟩:=hsx.addr;obtain⟨c,cap',rfl,hc⟩:=hsy.addr;exact compare_eq w a cap xs c cap' ys he (by omega) hx.1 hy.1 b hb hat hc
 · obtain ⟨a,cap,rfl,_⟩:=hsx.addr;obtain⟨c,cap',rfl,hc⟩:=hsy.addr;refine(compare_len w a xs.length cap c ys.length cap' he).mono ?_;rintro e w' ⟨rfl,hb⟩;refine⟨?_,hb⟩
   rcases Nat.lt_or_ge xs.length ys.length with h | h
   · have h1:=lv_lt hx.1;have h2:=hy.ge (by intro e;simp[e]at h);have h3:1000000000^xs.length≤1000000000^(ys.length-1):=Nat.pow_le_pow_right (by omega) (by omega);rw[cmpN_lt h,cmpN_lt (by omega)]
   · have h':ys.length<xs.length:=by omega
     have h1:=lv_lt hy.1;have h2:=hx.ge (by intro e;simp[e]at h');have h3:1000000000^ys.length≤1000000000^(xs.length-1):=Nat.pow_le_pow_right (by omega) (by omega);rw[cmpN_gt h',cmpN_gt (by omega)]
end Nt
end
section
open Go.RowKit Go.Shelf
namespace Nt
def SearchPost (n:Nat) (p:Nat→Bool) (w:World) (e:Ending) (w':World):Prop :=
 ∃r:Nat,e=.returned (.int .i64 (r:Int))∧r≤n∧(∀i,i<r→p i=false)∧(r<n→p r=true)∧Below w.heap.size w w'
theorem search_any (n:Nat) (hn:n≤1000000000) (p:Nat→Bool) (c1 c2:Value) (w:World)
 (hmono:Hid (∀a b,a≤b→b<n→p a=true→p b=true))
 (H:Hid (∀W i,Below w.heap.size w W→i<n→Calls Tryz.prog 191 #[.int .i64 (i:Int),c1,c2] W fun e W'=>e=.returned (.bool (p i))∧Below W.heap.size W W')) :
 Calls Tryz.prog 190 #[.int .i64 (n:Int),.func (.func 191) #[] #[c1,c2]] w (SearchPost n p w):=by
 go_enter Tryz.func190,Tryz.ntmps190;go_wp2
 go_loopw [5,6] (fun i j wr=>∃a b:Nat,a≤b∧b≤n∧i=.int .i64 a∧j=.int .i64 b∧Hid ((∀k,k<a→p k=false)∧(b<n→p b=true))∧Below w.heap.size w wr)
  (fun i j _=>(intOf j-intOf i).toNat)
 case atStart=>exact⟨0,n,Nat.zero_le _,Nat.le_refl _,rfl,rfl,⟨fun k h=>by omega,fun h=>by omega⟩,Below.refl _ _⟩
 case round =>
  obtain⟨a,b,hab,hbn,rfl,rfl,hinv,hbel⟩:=hrel;replace hbel:=Lib.hid hbel
  by_cases hlt:a<b
  · go_wp2_with fail
    obtain⟨q,hq⟩:∃q:Nat,q=(a+b)/2:=⟨_,rfl⟩;have e:((a:Int)+b)/2=(q:Int):=by rw[hq];omega
    rw[e];have haq:a≤q:=by omega
    have hqb:q<b:=by omega
    clear hq e;refine(H.out _ q hbel.out (by omega)).mono ?_;rintro e w' ⟨rfl,hb'⟩;have hbel':=Lib.hid (hbel.out.trans (hb'.mono hbel.out.size));clear hb' hbel
    by_cases hp:p q=true
    · have HP:=Lib.hid hp;rw[hp];clear hp;go_wp2;exact⟨⟨a,q,haq,by omega,rfl,rfl,⟨hinv.out.1,fun _=>HP.out⟩,hbel'.out⟩,by simp only[intOf];omega⟩
    · replace hp:p q=false:=by simpa using hp
      have HP:=Lib.hid hp;rw[hp];clear hp;go_wp2;refine⟨⟨q+1,b,by omega,hbn,by go_num,rfl,⟨fun k hk=>?_,hinv.out.2⟩,hbel'.out⟩,by simp only[intOf];omega⟩
      cases hk':p k with
      | false=>rfl
      | true=>rw[←HP.out];exact(hmono.out k q (by omega) (by omega) hk').symm
  · obtain rfl:a=b:=by omega
    go_wp2;go_ret;exact⟨a,rfl,hbn,hinv.out.1,hinv.out.2,hbel.out⟩
end Nt
end
section
open Go.RowKit
namespace Nt
def RelMul (B:Nat) (w:World) (xs ys:List Nat) (g:Nat) (i:Nat) (wr:World):Prop :=
 ∃zs,zs.length=xs.length+ys.length∧InR zs∧Row 150 wr g zs∧lv zs=lo xs i*lv ys∧(∀j,i+ys.length≤j→lim zs j=0)∧Below B w wr
def RelMulIn (B:Nat) (w:World) (xs ys:List Nat) (g:Nat) (i j c:Nat) (wr:World):Prop :=
 ∃ zs,zs.length=xs.length+ys.length∧InR zs∧Row 150 wr g zs∧c<1000000000 ∧
  lv zs+c*1000000000^(i+j)=lo xs i*lv ys+1000000000^i*(lim xs i*lo ys j)∧(∀j,i+ys.length≤j→lim zs j=0)∧Below B w wr
theorem mul_step {Z Z' R P x z c c':Nat} {T:Nat} (h:Z+c*P=R) (hs:Z'+P*z=Z+P*(x%1000000000)) (hc:c'=x/1000000000) (hx:x=z+T+c) :
 Z'+c'*(P*1000000000)=R+P*T:=by
 have e1:P*x=P*z+P*T+P*c:=by rw[hx,Nat.mul_add,Nat.mul_add]
 have e2:P*x=P*(x%1000000000)+P*(1000000000*(x/1000000000)):=by rw[←Nat.mul_add,Nat.mod_add_div]
 have e3:c'*(P*1000000000)=P*(1000000000*(x/1000000000)):=by
  rw[hc,Nat.mul_comm,Nat.mul_assoc]
 have e4:c*P=P*c:=Nat.mul_comm _ _;omega
theorem RelMulIn.step {B:Nat} {w wr:World} {xs ys:List Nat} {g i j c:Nat} (h:RelMulIn B w xs ys g i j c wr) (hB:B≤g) (hi:i<xs.length) (hj:j<ys.length) (hx:InR xs) (hy:InR ys)
 {z T:Nat} {y:Int} (hz:wr.cell? ⟨g,i+j,none⟩=some (.int .u64 (z:Int))) (hT:T=lim xs i*lim ys j) (he:y=(((z+T+c)%1000000000:Nat):Int)) :
 RelMulIn B w xs ys g i (j+1) ((z+T+c)/1000000000) (wr.setCell ⟨g,i+j,none⟩ (.int .u64 y)):=by
 subst he hT;obtain⟨zs,h1,h2,h3,h4,h5,h6,h7⟩:=h;have hzc:=h3.cell (i:=i+j) (by omega);rw[hz]at hzc;have hzz:z=lim zs (i+j):=by simp at hzc;omega
 have b1:=h2.lim (i+j);have b2:=hx.lim i;have b3:=hy.lim j;have b4:lim xs i*lim ys j≤999999999*999999999:=Nat.mul_le_mul (by omega) (by omega);refine⟨zs.set (i+j) ((z+lim xs i*lim ys j+c)%1000000000),by simpa using h1,h2.set _ _ (Nat.mod_lt _ (by omega)),h3.set _ _,by omega,?_,fun p hp=>?_,h7.setCell hB _⟩
 · have hs:=lv_set zs (i+j) ((z+lim xs i*lim ys j+c)%1000000000) (by omega);rw[←hzz]at hs;have:=mul_step h5 hs rfl rfl;rw[lo_succ,show i+(j+1)=i+j+1 from rfl,Nat.pow_succ,this,Nat.mul_add,Nat.mul_add]
   have e:1000000000^(i+j)*(lim xs i*lim ys j)=1000000000^i*(lim xs i*(1000000000^j*lim ys j)):=by
    rw[Nat.pow_add,Nat.mul_assoc,Nat.mul_left_comm (1000000000^j)]
   omega
 · rw[lim_set_ne _ _ _ _ (by omega)];exact h6 p hp
theorem RelMul.start {B:Nat} {w wr:World} {xs ys:List Nat} {g i:Nat} (h:RelMul B w xs ys g i wr):RelMulIn B w xs ys g i 0 0 wr:=by
 obtain⟨zs,h1,h2,h3,h4,h5,h6⟩:=h;exact⟨zs,h1,h2,h3,by omega,by simp[h4,lo_zero],h5,h6⟩
theorem RelMulIn.done {B:Nat} {w wr:World} {xs ys:List Nat} {g i c:Nat} (h:RelMulIn B w xs ys g i ys.length c wr) (hB:B≤g) (hi:i<xs.length) :
 RelMul B w xs ys g (i+1) (wr.setCell ⟨g,i+ys.length,none⟩ (.int .u64 (c:Int))):=by
 obtain⟨zs,h1,h2,h3,h4,h5,h6,h7⟩:=h;refine⟨zs.set (i+ys.length) c,by simpa using h1,h2.set _ _ h4,h3.set _ _,?_,fun p hp=>?_,h7.setCell hB _⟩
 · have hs:=lv_set zs (i+ys.length) c (by omega);rw[h6 _ (Nat.le_refl _)]at hs;rw[lo_all ys _ (Nat.le_refl _)]at h5;rw[lo_succ,Nat.add_mul,Nat.mul_assoc];have:c*1000000000^(i+ys.length)=1000000000^(i+ys.length)*c:=Nat.mul_comm _ _;omega
 · rw[lim_set_ne _ _ _ _ (by omega)];exact h6 p (by omega)
theorem cast_quo (z a b c:Nat):((z:Int)+a*b+c)/1000000000=(((z+a*b+c)/1000000000:Nat):Int):=by
 rw[Int.natCast_ediv,Int.natCast_add,Int.natCast_add,Int.natCast_mul];rfl
theorem cast_rem (z a b c:Nat):((z:Int)+a*b+c)%1000000000=(((z+a*b+c)%1000000000:Nat):Int):=by
 rw[Int.natCast_emod,Int.natCast_add,Int.natCast_add,Int.natCast_mul];rfl
theorem RelMulIn.at {B:Nat} {w wr:World} {xs ys:List Nat} {g i j c:Nat} (h:RelMulIn B w xs ys g i j c wr) (hi:i<xs.length) (hj:j<ys.length) :
 ∃z:Nat,z<1000000000∧wr.cell? ⟨g,i+j,none⟩=some (.int .u64 (z:Int))∧wr.frozen? ⟨g,i+j,none⟩=false∧c<1000000000∧Below B w wr:=by
 obtain⟨zs,h1,h2,h3,h4,h5,h6,h7⟩:=h;exact⟨lim zs (i+j),h2.lim _,h3.cell (by omega),h3.frozen _,h4,h7⟩
theorem mul_walk (w:World) (a:Option Addr) (cap:Nat) (xs:List Nat) (c:Option Addr) (cap':Nat) (ys:List Nat) (hl:xs.length≤1000) (hyl:ys.length≤1000)
 (hx:InR xs) (hy:InR ys)
 (ha:xs≠[]→∃b off,a=some ⟨b,off,none⟩∧b<w.heap.size∧∀i,i<xs.length→w.cell? ⟨b,off+i,none⟩=some (.int .u64 (lim xs i)))
 (hc:ys≠[]→∃b off,c=some ⟨b,off,none⟩∧b<w.heap.size∧∀i,i<ys.length→w.cell? ⟨b,off+i,none⟩=some (.int .u64 (lim ys i))) :
 Calls Tryz.prog 169 #[.slice a xs.length cap,.slice c ys.length cap'] w (PostNumV w.heap.size w (lv xs*lv ys)):=by
 have hmk:=run_make_num (xs.length+ys.length) (by omega);rw[Int.natCast_add]at hmk;go_enter Tryz.func169,Tryz.ntmps169;go_wp2
 go_loopw [20] (fun i wr=>∃k:Nat,k≤xs.length∧i=.int .i64 k∧RelMul w.heap.size w xs ys w.heap.size k wr)
  (fun i _=>xs.length-(intOf i).toNat)
 case atStart=>exact⟨0,Nat.zero_le _,rfl,List.replicate (xs.length+ys.length) 0,by simp,InR.zeros _,Row.made0 _ _ _,by rw[lo_zero,Nat.zero_mul];exact lv_zeros _ (fun j hj=>lim_zeros _ _),(fun j hj=>lim_zeros _ _),(Below.refl _ _).alloc (Nat.le_refl _) _⟩
 case round =>
  obtain⟨k,hk,rfl,hrel⟩:=hrel
  by_cases hkn:k<xs.length
  · obtain ⟨bx,ox,hax,hbx,hcx⟩:=ha (by intro e;simp[e]at hkn);obtain⟨zs,z1,z2,z3,z4,z5,z6⟩:=id hrel;have hcxk:=(z6.cell (p:=⟨bx,ox+k,none⟩) hbx).trans (hcx k hkn);have hxk:=hx.lim k;subst hax;have HC:=Lib.hid hc;clear hcx ha z1 z2 z3 z4 z5 z6 hmk hc;have HR:=Lib.hid hrel;clear hrel;go_wp2;obtain⟨wo,rfl⟩:∃wo:World,wo=wr:=⟨_,rfl⟩
    go_loopw [8,27] (fun cc j wr=>∃q c:Nat,q≤ys.length∧j=.int .i64 q∧cc=.int .u64 c∧RelMulIn w.heap.size w xs ys w.heap.size k q c wr)
     (fun _ j _=>ys.length-(intOf j).toNat)
    case atStart=>exact⟨0,0,Nat.zero_le _,rfl,rfl,HR.out.start⟩
    case round =>
     obtain⟨q,c2,hq,rfl,rfl,hrel⟩:=hrel
     by_cases hqn:q<ys.length
     · obtain ⟨b2,oy,hay,hby,hcy⟩:=HC.out (by intro e;simp[e]at hqn);subst hay;obtain⟨z,hz,hzc,hzf,hc2,hbel⟩:=hrel.at hkn hqn;have hcyk:=hbel.cell (p:=⟨b2,oy+q,none⟩) hby |>.trans (hcy q hqn)
       have hyk:=hy.lim q
       have hprod:(lim xs k:Int)*(lim ys q:Int)≤999999998000000001:=by
        have:lim xs k*lim ys q≤999999999*999999999:=Nat.mul_le_mul (by omega) (by omega);have:((lim xs k*lim ys q:Nat):Int)≤((999999999*999999999:Nat):Int):=by exact_mod_cast this
        simpa using this
       have hprod0:0≤(lim xs k:Int)*(lim ys q:Int):=Int.mul_nonneg (by omega) (by omega);replace hrel:=Lib.hid hrel;replace hx:=Lib.hid hx;replace hy:=Lib.hid hy;clear hcy hbel HC;go_wp2
       exact ⟨⟨q+1,(z+lim xs k*lim ys q+c2)/1000000000,by omega,by go_num,congrArg (Value.int .u64) (cast_quo _ _ _ _),
        hrel.out.step (Nat.le_refl _) hkn hqn hx.out hy.out hzc rfl (cast_rem _ _ _ _)⟩,by simp only[intOf];omega⟩
     · obtain rfl:q=ys.length:=by omega
       have HR':=Lib.hid (hrel.done (Nat.le_refl _) hkn);obtain⟨zs,z1,z2,z3,z4,z5,z6,z7⟩:=hrel;have hzc:=z3.cell (i:=k+ys.length) (by omega);have hzf:=z3.frozen (k+ys.length);replace hx:=Lib.hid hx;replace hy:=Lib.hid hy;clear z1 z2 z3 z5 z6 z7 HC;go_wp2;exact⟨⟨k+1,by omega,by go_num,HR'.out⟩,by simp only[intOf];omega⟩
  · obtain rfl:k=xs.length:=by omega
    obtain⟨zs,z1,z2,z3,z4,z5,z6⟩:=id hrel;have Z1:=Lib.hid z1;have Z4:=Lib.hid z4;have hsl:=z3.sl;rw[z1]at hsl;clear z1 z4 hrel ha hc hmk z5
    go_wp2_with (go_at_call 180;refine(trim_any _ _ _ (by have:=Z1.out;omega) hsl).mono ?_;rintro e w' ⟨v,k,rfl,ht,hs,hf,rfl⟩)
    go_ret;exact⟨v,rfl,⟨zs.take k,ht.canon z2,by rw[ht.lv,Z4.out,lo_all _ _ (Nat.le_refl _)],hs⟩,hf _ (Nat.le_refl _),z6⟩
theorem mul_any (w:World) (v u:Value) (n m:Nat) (hn:Num w v n) (hm:Num w u m) (hbn:Small n) (hbm:Small m) :
 Calls Tryz.prog 169 #[v,u] w (PostNumV w.heap.size w (n*m)):=by
 obtain⟨xs,hx,rfl,hsx⟩:=hn;obtain⟨ys,hy,rfl,hsy⟩:=hm;have hl:=hx.len_le (k:=200) hbn;have hyl:=hy.len_le (k:=200) hbm;obtain⟨a,cap,rfl,ha⟩:=hsx.addr;obtain⟨c,cap',rfl,hc⟩:=hsy.addr;exact mul_walk w a cap xs c cap' ys (by omega) (by omega) hx.1 hy.1 ha hc
end Nt
end
section
open Go.RowKit Go.Shelf
namespace Nt
theorem num_one (w:World) (x:Nat) (h0:0<x) (h:x<1000000000) {X:Int} (hX:X=(x:Int)) :
 Num (w.alloc (.cells #[.int .u64 X] 150)) (.slice (some ⟨w.heap.size,0,none⟩) 1 1) x:=by
 subst hX;refine⟨[x],⟨fun y hy=>?_,?_⟩,by simp[lv],?_⟩
 · simp at hy;omega
 · simp;omega
 · refine Sl.mk (xs:=[x]) (by simp) (Nat.le_refl _) (fun i hi=>?_);have hi:i<1:=hi;obtain rfl:i=0:=by omega
   rw[Nat.zero_add,World.cell?_alloc_new];rfl
theorem small_of_le {a b:Nat} (h:Small b) (hab:a≤b):Small a:=Nat.lt_of_le_of_lt hab h
theorem small_limb {a:Nat} (h:a<1000000000):Small a:=by
 have h1:1000000000^1≤1000000000^200:=Nat.pow_le_pow_right (by omega) (by omega);rw[Nat.pow_one]at h1;exact Nat.lt_of_lt_of_le h h1
theorem cmpN_pos (x y:Nat):decide (0<cmpN x y)=decide (y<x):=by
 unfold cmpN
 split
 · simp;omega
 · split
   · simp;omega
   · simp;omega
theorem closure_any (W:World) (k:Nat) (hk:k<999999999) (bm br:Nat) (mv rv:Value) (M R:Nat) (hm:W.cell? ⟨bm,0,none⟩=some mv) (hr:W.cell? ⟨br,0,none⟩=some rv)
 (hM:Hid (Num W mv M)) (hR:Hid (Num W rv R)) (hbM:Hid (Small (M*1000000000))) :
 Calls Tryz.prog 191 #[.int .i64 (k:Int),.pointer (some ⟨bm,0,none⟩),.pointer (some ⟨br,0,none⟩)] W fun e W'=>e=.returned (.bool (decide (R<M*(k+1))))∧Below W.heap.size W W':=by
 have hbr:br<W.heap.size:=block_lt_of_cell hr;have hbm:bm<W.heap.size:=block_lt_of_cell hm;have s1:IntKind.i64.wrap ((k:Int)+1)=(k:Int)+1:=IntWalk.i64_in _ (by omega);have s2:IntKind.u64.wrap ((k:Int)+1)=(k:Int)+1:=IntWalk.u64_in _ (by omega);have hone:=num_one W (k+1) (by omega) (by omega) (X:=(k:Int)+1) (by omega);have cM:=mul_any (W.alloc (.cells #[.int .u64 ((k:Int)+1)] 150)).drew mv (.slice (some ⟨W.heap.size,0,none⟩) 1 1) M (k+1) (hM.out.below ((Below.refl _ _).alloc (Nat.le_refl _) _).drew) hone (small_of_le hbM.out (by omega)) (small_limb (by omega));go_enter Tryz.func191,Tryz.ntmps191;go_wp2
 go_region_held3 (fun w'=>w'.cell? ⟨bm,0,none⟩=some mv∧w'.cell? ⟨br,0,none⟩=some rv)
  (first
    | go_keep
    | (go_split_ands
       refine⟨?_,?_⟩
       · assumption
       · assumption))
  (first
  | (go_at_call 169;refine cM.mono ?_;rintro e w' ⟨v,rfl,hv,_,hb⟩;have hbW:Below W.heap.size W w':=((Below.refl W.heap.size W).alloc (Nat.le_refl _) _).drew.trans (hb.mono (by simp));have hcm:=(hbW.cell (p:=⟨bm,0,none⟩) hbm).trans hm;have hcr:=(hbW.cell (p:=⟨br,0,none⟩) hbr).trans hr;replace hb:=Lib.hid hb;replace hbW:=Lib.hid hbW)
  | (go_at_call 162;refine(compare_any _ _ _ (M*(k+1)) R (by assumption) (by exact hR.out.below (Hid.out (by assumption))) (small_of_le hbM.out (Nat.mul_le_mul_left _ (by omega))) (by have:=(Hid.out (p:=Below W.heap.size W _) (by assumption)).size;omega)).mono ?_;rintro e w2 ⟨rfl,hb2⟩;have hbW2:Below W.heap.size W w2:=hbW.out.trans (hb2.mono hbW.out.size);have hcm2:=(hbW2.cell (p:=⟨bm,0,none⟩) hbm).trans hm;have hcr2:=(hbW2.cell (p:=⟨br,0,none⟩) hbr).trans hr;replace hbW2:=Lib.hid hbW2;clear hcm hcr hb2))
 go_wp2;go_ret;exact⟨congrArg (fun b=>Ending.returned (.bool b)) (cmpN_pos _ _),hbW2.out⟩
end Nt
end
end Go.Proofs.YtioidbebjgeahaaGreatDoor

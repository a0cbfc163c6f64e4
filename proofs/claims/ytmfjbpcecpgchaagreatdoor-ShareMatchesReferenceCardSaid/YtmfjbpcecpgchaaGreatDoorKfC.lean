/- Parts of the proof. -/
import Derived.Laws.CopyOwn
import Derived.Test.YtmfjbpcecpgchaaGreatDoorKfB
set_option maxHeartbeats 16000000
set_option maxRecDepth 100000
open Go.Proofs.Tryz
namespace Go.Proofs.YtmfjbpcecpgchaaGreatDoor
section
open Go.RowKit Go.Shelf
namespace Ci
open Nt
def Bk(W:World)(b:Nat)(t:TypeId)(l:List Value):Prop:=W.heap[b]? = some (.cells l.toArray t (0,0))
section
variable {W W':World} {b:Nat} {t:TypeId} {l:List Value}
theorem Bk.lt(h:Bk W b t l):b<W.heap.size:=(Array.getElem?_eq_some_iff.1 h).1
theorem Bk.cell(h:Bk W b t l){j:Nat}{v:Value}(hj:l[j]? = some v):W.cell? ⟨b,j,none⟩=some v:=by
 unfold Bk at h;simp[World.cell?,h,hj]
theorem Bk.c0(h:Bk W b t l){v:Value}(hj:l[0]?=some v:=by exact rfl):W.cell? ⟨b,0,none⟩=some v:=h.cell hj
theorem Bk.c1(h:Bk W b t l){v:Value}(hj:l[1]?=some v:=by exact rfl):W.cell? ⟨b,1,none⟩=some v:=h.cell hj
theorem Bk.c2(h:Bk W b t l){v:Value}(hj:l[2]?=some v:=by exact rfl):W.cell? ⟨b,2,none⟩=some v:=h.cell hj
theorem Bk.c3(h:Bk W b t l){v:Value}(hj:l[3]?=some v:=by exact rfl):W.cell? ⟨b,3,none⟩=some v:=h.cell hj
theorem Bk.c4(h:Bk W b t l){v:Value}(hj:l[4]?=some v:=by exact rfl):W.cell? ⟨b,4,none⟩=some v:=h.cell hj
theorem Bk.c5(h:Bk W b t l){v:Value}(hj:l[5]?=some v:=by exact rfl):W.cell? ⟨b,5,none⟩=some v:=h.cell hj
theorem Bk.c6(h:Bk W b t l){v:Value}(hj:l[6]?=some v:=by exact rfl):W.cell? ⟨b,6,none⟩=some v:=h.cell hj
theorem Bk.c7(h:Bk W b t l){v:Value}(hj:l[7]?=some v:=by exact rfl):W.cell? ⟨b,7,none⟩=some v:=h.cell hj
theorem Bk.frozen(h:Bk W b t l)(j:Nat):W.frozen? ⟨b,j,none⟩=false:=by
 unfold Bk at h;simp[World.frozen?,h]
theorem Bk.new(w:World)(t:TypeId)(l:List Value):Bk (w.alloc (.cells l.toArray t)) w.heap.size t l:=zo _ _
theorem Bk.below(h:Bk W b t l)(hb:Below W.heap.size W W'):Bk W' b t l:=(hb.block b h.lt).trans h
theorem Bk.alloc(h:Bk W b t l)(o:Obj):Bk (W.alloc o) b t l:=(yZ W o b h.lt).trans h
theorem Bk.grown{row:Option Nat}(h:Bk W b t l)(hg:W.grownBy W' row)(a:some b≠row):Bk W' b t l:=(hg.block b h.lt a).trans h
theorem Bk.far(h:Bk W b t l){p:Addr}(hp:b≠p.block)(v:Value):Bk (W.setCell p v) b t l:=(zg _ _ _ _ hp).trans h
theorem Bk.set(h:Bk W b t l)(j:Nat)(v:Value):Bk (W.setCell ⟨b,j,none⟩ v) b t (l.set j v):=by
 unfold Bk at h ⊢;simp[World.setCell,Array.getElem?_modify,h]
end
theorem sumU_take{l:List Lk}{k:Nat}(h:k<l.length)(c:Int):sumU (l.take (k+1)) c=sumU (l.take k) c+if l[k].1=c then unitsN (lkP l[k]) else 0:=by
 unfold sumU;rw[zS h,yx,yf,List.sum_append]
 congr 1
 by_cases e:l[k].1=c
 .rw[zE e,yv,zE (zH e)];simp
 rw[zC e,yv,zC (by simpa using e)];simp
theorem Kb{n:Nat}{l:List Lk}:∀k,k<=l.length->(∀i (h:i<l.length),i<k->BU n l i h)->∀c,sumU (l.take k) c<=6000:=by
 intro k
 induction k with
 |zero=>intro _ _ c;simp[sumU]
 |succ k ih=>
  intro hk h c;have h1:=ih (by omega) (fun i hi h2=>h i hi (by omega)) c;rw[sumU_take (by omega)]
  by_cases e:l[k].1=c
  .have h2:=(h k (by omega) (by omega)).2.2;rw[sumU_take (by omega),zE rfl,e]at h2;rw[zE e];exact h2
  rw[zC e];omega
def Ua(W:World)(b:Nat)(l:List Lk)(k:Nat):Prop:=∃c f,MapK prog 3 κi W b c f/\c<=k/\∀y:Int,(f y).getD (.int .i64 0)=.int .i64 (sumU (l.take k) y:Int)
def Xf(l:List Lk)(k:Nat):List Value:=match l[k-1]? with
 |some x=>if k=0 then [.int .i64 (-1),.int .i64 (-1)] else [.int .i64 x.1,.int .i64 x.2.1]
 |none=>[.int .i64 (-1),.int .i64 (-1)]
def Ef(l:List Lk)(k:Nat):Int:=match l[k-1]? with
 |some x=>if k=0 then -1 else x.1
 |none=>-1
def EU(l:List Lk)(k:Nat):Int:=match l[k-1]? with
 |some x=>if k=0 then -1 else x.2.1
 |none=>-1
theorem G7(l:List Lk):Ef l 0=-1/\EU l 0=-1:=by
 unfold Ef EU
 cases l[0-1]?<;>simp
theorem Jp{l:List Lk}{k:Nat}(h:k<l.length):Ef l (k+1)=l[k].1/\EU l (k+1)=l[k].2.1:=by
 unfold Ef EU;rw[wR,yR h];simp
theorem RQ{l:List Lk}{k:Nat}(h:k<l.length)(h0:0<=l[k].1):(0<k->IO (l[k-1]'(by omega)) l[k])<->(Ef l k<l[k].1\/(Ef l k=l[k].1/\EU l k<l[k].2.1)):=by
 by_cases e:k=0
 .subst e;have:=G7 l;constructor
  .intro _;left;omega
  intro _ hc;omega
 obtain⟨j,rfl⟩:∃j,k=j+1:=⟨k-1,by omega⟩;have hj:j<l.length:=by omega
 obtain⟨e1,e2⟩:=Jp hj;rw[e1,e2];have hg:l[j+1-1]'(by omega)=l[j]:=by simp
 rw[hg];unfold IO;exact⟨fun h=>h (by omega),fun h _=>h⟩
def Ub(w:World)(n:Nat)(l:List Lk)(mb lb:Nat)(k:Nat)(wr:World):Prop :=
 Hid (Below w.heap.size w wr)/\Hid (Ua wr mb l k)/\Hid (Bk wr lb 93 [.int .i64 (Ef l k),.int .i64 (EU l k)])/\Hid (∀i (h:i<l.length),i<k->BU n l i h)
theorem FO:Go.Maps.Keyed prog 3:=Go.Maps.int_keyed underlying3
theorem UX(w:World):(zeroValue 3).run prog w=.ok (.int .i64 0) w:=by kernel_rfl
theorem RR(A:Option Addr)(cap n nb:Nat)(l:List Lk)(w:World)(hE:Env w)(hl:InLk w A l)(bo:l.length<=140737488355328)(hn:n<=140737488355328)(aC:w.cell? ⟨nb,0,none⟩=some (.int .i64 (n:Int)))
 (hz:∀x,x∈l->x.2.2.2.1.size<=140737488355328/\x.2.2.2.2.size<=140737488355328)(hi:∀x,x∈l->(-9223372036854775808<=x.1/\x.1<=9223372036854775807)/\(-9223372036854775808<=x.2.1/\x.2.1<=9223372036854775807)):
 Calls prog 64 #[.slice A l.length cap,.pointer (some ⟨nb,0,none⟩)] w fun e w'=>e=.returned (.bool (Dc n l))/\Below w.heap.size w w':=by
 have bi:=@run_makeMap prog;have bj:=xm w _ aC;have aV:Hid (Ua ((w.alloc (.map #[] 0)).alloc (.cells #[.int .i64 (-1),.int .i64 (-1)] 93)) w.heap.size l 0):=⟨0,_,(MapK.made w _ _ _).alloc _,zB _,fun y=>rfl⟩
 have aT:Hid (Bk ((w.alloc (.map #[] 0)).alloc (.cells #[.int .i64 (-1),.int .i64 (-1)] 93)) (w.heap.size+1) 93 [.int .i64 (Ef l 0),.int .i64 (EU l 0)]):=by
  have h:=Bk.new (w.alloc (.map #[] 0)) 93 [.int .i64 (-1),.int .i64 (-1)];rw[zT]at h;rw[(G7 l).1,(G7 l).2];exact h
 have aQ:Hid (Below w.heap.size w ((w.alloc (.map #[] 0)).alloc (.cells #[.int .i64 (-1),.int .i64 (-1)] 93))):=((zI _ w).alloc (zB _) _).alloc (by simp) _;replace hE:=zh hE;replace hl:=zh hl;replace hz:=zh hz;replace hi:=zh hi;replace aC:=zh aC;have bd:=zh (fun(k:Nat) (h:k<l.length) (hb:¬BU n l k h)=>Ld (n:=n) (l:=l) h hb);have bc:=zh (Le (n:=n) (l:=l));go_enter func64,ntmps64;go_wp2;clear bi
 go_loopw [15] (fun i wr=>∃k:Nat,k<=l.length/\i=.int .i64 (k:Int)/\Hid (Ub w n l w.heap.size (w.heap.size+1) k wr)) (fun i _=>l.length-(intOf i).toNat)
 case atStart=>exact⟨0,zO _,rfl,aQ,aV,aT,fun i _ h=>absurd h (zi _)⟩
 case round=>
  obtain⟨k,hk,rfl,hI⟩:=hrel;clear aV aT aQ;obtain⟨hB,hM,hL,hA⟩:=hI.o
  by_cases hlt:k<l.length
  .obtain ⟨b,o,rfl,bh,hc⟩:=(hl.o.below hB.o) (by omega);obtain⟨e1,e2,e3,e4,e5⟩:=hc k hlt;have ba:=hz.o l[k] (zQ hlt);have aY:=hi.o l[k] (zQ hlt);have av:=zh (bd.o k hlt);have an:=zh (sumU_take hlt);have af:=zh (RQ hlt);have aw:=zh (Jp hlt);have a6:=Kb k hk hA.o
   have aP:Hid (BU n l k hlt->∀i (h:i<l.length),i<k+1->BU n l i h):=fun h i hi h2=>by
    by_cases e:i=k
    .subst e;exact h
    exact hA.o i hi (by omega)
   have ae:Hid (BU n l k hlt<->(Own n l[k]/\(0<k->IO (l[k-1]'(by omega)) l[k])/\sumU (l.take (k+1)) l[k].1<=6000)):=wY;obtain⟨x,hx⟩:∃x,x=l[k]:=⟨_,rfl⟩;rw[<-hx]at e1 e2 e3 e4 e5 ba aY an af aw ae;obtain⟨co,ho,g,nn,dd⟩:=x;replace e1:wr.cell? ⟨b,o+k*5,none⟩=some (.int .i64 co):=e1;replace e2:wr.cell? ⟨b,o+k*5+1,none⟩=some (.int .i64 ho):=e2;replace e3:wr.cell? ⟨b,o+k*5+2,none⟩=some (.bool g):=e3;replace e4:wr.cell? ⟨b,o+k*5+3,none⟩=some (.string nn):=e4;replace e5:wr.cell? ⟨b,o+k*5+4,none⟩=some (.string dd):=e5;obtain⟨⟨i1,i2⟩,i3,i4⟩:=aY;replace i1:-9223372036854775808<=co:=i1;replace i2:co<=9223372036854775807:=i2;replace i3:-9223372036854775808<=ho:=i3;replace i4:ho<=9223372036854775807:=i4;obtain⟨z1,z2⟩:=ba;replace z1:nn.size<=140737488355328:=z1;replace z2:dd.size<=140737488355328:=z2;have a5:=a6 co;have aN:=Lc (g,nn,dd);have ku:Hid (∀W,Env W->Calls prog 65 #[.agg #[.bool g,.string nn,.string dd]] W fun e w'=>e=.returned (.int .i64 (unitsN (g,nn,dd):Int))/\Below W.heap.size W w'):=fun W hW=>PJ g nn dd W hW z1 z2;replace ae:Hid (BU n l k hlt<->((0<=co/\co<n)/\(0<=ho/\ho<n)/\co≠ho/\unitsN (g,nn,dd)≠0)/\(0<k->IO (l[k-1]'(by omega)) (co,ho,g,nn,dd))/\sumU (l.take (k+1)) co<=6000):=ae;replace af:Hid (0<=co->((0<k->IO (l[k-1]'(by omega)) (co,ho,g,nn,dd))<->(Ef l k<co\/(Ef l k=co/\EU l k<ho)))):=af;replace an:Hid (∀c,sumU (l.take (k+1)) c=sumU (l.take k) c+if co=c then unitsN (g,nn,dd) else 0):=an;replace aw:Hid (Ef l (k+1)=co/\EU l (k+1)=ho):=aw;have ai:Hid (sumU (l.take (k+1)) co=sumU (l.take k) co+unitsN (g,nn,dd)):=by have h:=an.o co;rwa [zE rfl]at h
   obtain⟨p,hp⟩:∃p,p=unitsN (g,nn,dd):=⟨_,rfl⟩;rw[<-hp]at aN ku ae an ai;obtain⟨sk,al⟩:∃s,s=sumU (l.take k) co:=⟨_,rfl⟩;rw[<-al]at a5 ai;obtain⟨lc,aK⟩:∃s,s=Ef l k:=⟨_,rfl⟩;obtain⟨lh,aL⟩:∃s,s=EU l k:=⟨_,rfl⟩;rw[<-aK,<-aL]at hL af;replace hp:=zh hp;replace hx:=zh hx;replace al:=zh al;replace aK:=zh aK;replace aL:=zh aL;have i0:(0:Int)<=(k:Int):=by omega
   have i5:(k:Int)<(l.length:Int):=by omega
   clear hc a6 hI hl hz hi;have aq:Hid (Bk (wr.alloc (.cells #[.int .i64 co,.int .i64 ho,.bool g,.string nn,.string dd] 55)) wr.heap.size 55 [.int .i64 co,.int .i64 ho,.bool g,.string nn,.string dd]):=Bk.new wr _ _;have ad:=zh (hB.o.alloc hB.o.size (.cells #[.int .i64 co,.int .i64 ho,.bool g,.string nn,.string dd] 55));have hL1:=zh (hL.o.alloc (.cells #[.int .i64 co,.int .i64 ho,.bool g,.string nn,.string dd] 55));obtain⟨mc,f,aW,br,hf⟩:=hM.o;have aH:=zh (aW.alloc (.cells #[.int .i64 co,.int .i64 ho,.bool g,.string nn,.string dd] 55));replace hf:=zh hf;clear aW
   go_wp2_with fail
   obtain⟨W1,aX⟩:∃W,W=wr.alloc (.cells #[.int .i64 co,.int .i64 ho,.bool g,.string nn,.string dd] 55):=⟨_,rfl⟩;rw[<-aX]at aq ad hL1 aH ⊢;have bn:w.heap.size+1<wr.heap.size:=hL.o.lt;obtain⟨xb,a8⟩:∃b,b=wr.heap.size:=⟨_,rfl⟩;rw[<-a8]at aq bn ⊢;clear aX a8 hL hB hM e1 e2 e3 e4 e5 bh
   have HO:Hid (∀W,Below W1.heap.size W1 W->W.cell? ⟨xb,0,none⟩=some (.int .i64 co)/\W.cell? ⟨xb,1,none⟩=some (.int .i64 ho)/\W.cell? ⟨xb,2,none⟩=some (.bool g)/\W.cell? ⟨xb,3,none⟩=some (.string nn)/\W.cell? ⟨xb,4,none⟩=some (.string dd)):=fun W h=>
    have h:=aq.o.below h
    ⟨h.c0,h.c1,h.c2,h.c3,h.c4⟩
   have aG:Hid (Below W1.heap.size W1 W1):=zI _ _;have aF:Hid (Below W1.heap.size W1 (W1.alloc (.cells #[.int .i64 0,.int .i64 0] 93))):=(zI _ _).alloc (zB _) _;have ar:Hid (Below W1.heap.size W1 (W1.alloc (.cells #[.int .i64 0,.int .i64 0] 93)).drew):=aF.o.drew;have au:Hid (Below W1.heap.size W1 W1.drew):=aG.o.drew;have aS:Hid (Env W1.drew):=hE.o.below (ad.o.trans (au.o.mono ad.o.size));have aR:Hid (Env (W1.alloc (.cells #[.int .i64 0,.int .i64 0] 93)).drew):=hE.o.below (ad.o.trans (ar.o.mono ad.o.size));have a9:Hid (Bk (W1.alloc (.cells #[.int .i64 0,.int .i64 0] 93)).drew W1.heap.size 93 [.int .i64 0,.int .i64 0]):=Bk.new W1 93 _;have bm:=aq.o.lt
   go_region_held3 (fun w'=>w'.cell? ⟨xb,0,none⟩=some (.int .i64 co)/\w'.cell? ⟨xb,1,none⟩=some (.int .i64 ho)/\w'.cell? ⟨xb,2,none⟩=some (.bool g)/\w'.cell? ⟨xb,3,none⟩=some (.string nn)/\w'.cell? ⟨xb,4,none⟩=some (.string dd)) (first|(with_reducible exact HO.o _ aG.o)|(with_reducible exact HO.o _ au.o)|(with_reducible exact HO.o _ ar.o)|(with_reducible exact HO.o _ aF.o)|(with_reducible exact HO.o _ aa.o)|(with_reducible exact HO.o _ (aa.o.alloc aa.o.size _))|(with_reducible exact HO.o _ ((aa.o.setCell (zB _) _).setCell (zB _) _))|go_keep)
    (first
      |(go_at_call 65;refine(ku.o _ ?_).mono ?_;(with_reducible exact aR.o);rintro e w2 ⟨rfl,ao⟩;have aj:=zh (a9.o.below ao);have aa:=ar.t ao;have y1:=aj.o.c0;have y2:=aj.o.c1;have y3:=aj.o.frozen 0;have y4:=aj.o.frozen 1;have y5:=aj.o.lt;clear ao)
      |(go_at_call 65;refine(ku.o _ ?_).mono ?_;(with_reducible exact aS.o);rintro e w2 ⟨rfl,ao⟩;have aa:=au.t ao;clear ao))
   all_goals (
    first
     |(obtain⟨kb,ag⟩:∃b,b=w2.heap.size:=⟨_,rfl⟩;obtain⟨w5,ah⟩:∃W,W=w2.alloc (.cells #[.int .i64 co,.int .i64 ho] 93):=⟨_,rfl⟩;rw[<-ah,<-ag];have ay:Hid (Bk w5 kb 93 [.int .i64 co,.int .i64 ho]):=(by rw[ah,ag];exact Bk.new w2 _ _);have am:Hid (Below W1.heap.size W1 w5):=(by rw[ah];exact aa.o.alloc aa.o.size _);have aZ:W1.heap.size<=kb:=(by rw[ag];exact aa.o.size))
     |(obtain⟨kb,ag⟩:∃b,b=W1.heap.size:=⟨_,rfl⟩;obtain⟨w5,ah⟩:∃W,W=(w2.setCell ⟨W1.heap.size,0,none⟩ (.int .i64 co)).setCell ⟨W1.heap.size,1,none⟩ (.int .i64 ho):=⟨_,rfl⟩;rw[<-ah,<-ag];have ay:Hid (Bk w5 kb 93 [.int .i64 co,.int .i64 ho]):=(by rw[ah,ag];exact(aj.o.set 0 _).set 1 _);have am:Hid (Below W1.heap.size W1 w5):=(by rw[ah];exact(aa.o.setCell (zB _) _).setCell (zB _) _);have aZ:W1.heap.size<=kb:=(by rw[ag];exact zB _);clear aj y1 y2 y3 y4 y5)
    clear ah ag aa au ar aF a9 aS aR aG;have aO:=zh (aq.o.below am.o);have aU:=zh (hL1.o.below am.o);have aI:=zh (aH.o.below am.o);have aD:=zh (ad.o.trans (am.o.mono ad.o.size));have bq:xb<kb:=by omega
    clear HO aq hL1 aH ad am bm aZ;have aB:=EI underlying3 i1 i2;have aA:=aI.o.look FO underlying91 (UX _) aB;rw[hf.o co,<-al.o]at aA;obtain⟨w6,a4,aJ,ax⟩:=aI.o.put G6 FO underlying91 (by unfold maxLen;omega) aB (.int .i64 ((sk:Int)+(p:Int)));have u1:=aO.o.c0;have u2:=ay.o.c0;have u3:=ay.o.c1;have s0:(0:Int)<=(sk:Int)+(p:Int):=by omega
    go_upto_region 7 with(fail)
    have a7:some xb≠some w.heap.size:=fun e=>by have:=Option.some.inj e;omega
    have a1:some kb≠some w.heap.size:=fun e=>by have:=Option.some.inj e;omega
    have a2:some (w.heap.size+1)≠some w.heap.size:=fun e=>by have:=Option.some.inj e;omega
    have bk:=zh (aO.o.grown ax a7);have az:=zh (ay.o.grown ax a1);have ab:=zh (aU.o.grown ax a2);have aE:Hid (Below w.heap.size w w6):=aD.o.grown ax aD.o.size (fun b e=>by cases e;exact zB _);have d:=aJ.look FO underlying91 (UX _) aB;rw[Cn]at d;replace d:(Instr.lookup 91 (.map (some w.heap.size)) (.int .i64 co) false).run prog w6=.ok (.int .i64 ((sk:Int)+(p:Int))) w6:=d
    have bf:Hid (Ua w6 w.heap.size l (k+1)):=by
     refine⟨_,_,aJ,by split<;>omega,fun y=>?_⟩
     by_cases e:y=co
     .rw[e,Cn,ai.o];rfl
     rw[Cg e,hf.o y,an.o y,zC fun c=>e c.symm,xH]
    have n1:=(aE.o.cell (p:=⟨nb,0,none⟩) bj).trans aC.o;have a0:Hid (w.heap.size+1≠kb):=fun e=>by omega
    clear a4 aA aB aO ay aU aI aD aJ ax u1 u2 u3 a7 a1 a2 hf;have u1:=bk.o.c0;have u2:=az.o.c0;have u3:=az.o.c1;have u4:=ab.o.c0;have u5:=ab.o.c1;have u6:=ab.o.frozen 0;have u7:=ab.o.frozen 1;have u8:=ab.o.lt;have u9:=az.o.lt;clear u6 u7;obtain⟨r,hr⟩:∃r:Bool,r=decide (lc<co\/(lc=co/\lh<ho)):=⟨_,rfl⟩;obtain⟨q,hq⟩:∃q:Bool,q=decide (co<0\/(n:Int)<=co\/ho<0\/(n:Int)<=ho\/co=ho\/r=false\/p=0\/6000<sk+p):=⟨_,rfl⟩;have ak:(Instr.lookup 91 (.map (some w.heap.size)) (.int .i64 co) false).run prog w6=.ok (.int .i64 ((sk+p:Nat):Int)) w6:=d;replace hr:=zh hr;replace hq:=zh hq;clear d;refine Ww kb (w.heap.size+1) co ho lc lh r hr.o w6 u2 u3 u4 u5 ?_;intro u33 u34 u35 u36 u37 u38 u39 u40 u41 u42 u43 u44 u45 u46 u47 u48 u49 u50 u51
    go_upto_region 8 with(fail)
    refine Wx xb kb nb w.heap.size n p (sk+p) co ho r q hq.o w6 aN (by omega) hn u1 u2 u3 n1 ak ?_;intro bs bt bu bv bx bz bA bB bC bD bE bF bG bH bI bJ bK bL bM bN bO bP bQ bR bS bT bU bW bX bY bZ b0 b1 b2 b3 b4 b5 b6 b7 b8 b9;clear u1 u2 u3 u4 u5 n1 ak s0 aN a5 i0 i5
    cases q with
    |true=>
     have HG:Hid (Dc n l=false):=av.o fun h=>by
      have h2:=ae.o.1 h;have h3:=hq.o;have h4:=zf h3.symm;have h5:=h2.2.2;rw[ai.o]at h5;have h6:=(af.o h2.1.1.1).1 h2.2.1;have h7:r=true:=by rw[hr.o];exact zH h6
      rw[h7]at h4;obtain⟨⟨d1,d2⟩,⟨d3,d4⟩,d5,d6⟩:=h2.1
      rcases h4 with c|c|c|c|c|c|c|c
      .omega
      .omega
      .omega
      .omega
      .exact d5 c
      .cases c
      .exact d6 c
      omega
     clear hq hr ae af ai av;go_wp2;go_ret;exact⟨Ag HG.o.symm,aE.o⟩
    |false=>
     have aM:Hid (¬(co<0\/(n:Int)<=co\/ho<0\/(n:Int)<=ho\/co=ho\/r=false\/p=0\/6000<sk+p)):=of_decide_eq_false hq.o.symm
     have a3:Hid (lc<co\/(lc=co/\lh<ho)):=by
      have h:=hr.o
      have h1:r=true:=by
       cases r
       .exact absurd (.inr (.inr (.inr (.inr (.inr (.inl rfl)))))) aM.o
       rfl
      rw[h1]at h;have h9:lc<co\/(lc=co/\lh<ho):=zf h.symm;exact h9
     have HN:Hid (∀i (h:i<l.length),i<k+1->BU n l i h):=aP.o (ae.o.2 (by
      have h:=aM.o;refine⟨⟨⟨by omega,by omega⟩,⟨by omega,by omega⟩,fun c=>h (.inr (.inr (.inr (.inr (.inl c))))),by omega⟩,(af.o (by omega)).2 a3.o,by rw[ai.o];omega⟩))
     have be:Hid (Bk ((w6.setCell ⟨w.heap.size+1,0,none⟩ (.int .i64 co)).setCell ⟨w.heap.size+1,1,none⟩ (.int .i64 ho)) (w.heap.size+1) 93 [.int .i64 (Ef l (k+1)),.int .i64 (EU l (k+1))]):=by rw[aw.o.1,aw.o.2];exact(ab.o.set 0 _).set 1 _
     have bb:Hid (Below w.heap.size w ((w6.setCell ⟨w.heap.size+1,0,none⟩ (.int .i64 co)).setCell ⟨w.heap.size+1,1,none⟩ (.int .i64 ho))):=(aE.o.setCell (p:=⟨w.heap.size+1,0,none⟩) (vO _) _).setCell (p:=⟨w.heap.size+1,1,none⟩) (vO _) _
     have bg:Hid (Ua ((w6.setCell ⟨w.heap.size+1,0,none⟩ (.int .i64 co)).setCell ⟨w.heap.size+1,1,none⟩ (.int .i64 ho)) w.heap.size l (k+1)):=by
      obtain⟨c,f,h1,h2⟩:=bf.o;exact⟨c,f,(h1.set (a:=⟨w.heap.size+1,0,none⟩) (yb (yB _)) _).set (a:=⟨w.heap.size+1,1,none⟩) (yb (yB _)) _,h2⟩
     clear hq hr ae af ai av aM a3 aP;have u2:=az.o.c0;have u3:=az.o.c1;have u4:=ab.o.c0;have u5:=ab.o.c1;have u6:=ab.o.frozen 0;have u7:=ab.o.frozen 1;have bp:=a0.o;go_wp2
     go_roundw
     case rel=>exact⟨k+1,by omega,by go_num,bb,bg,be,HN⟩
     case measure=>simp[intOf];omega)
  obtain rfl:k=l.length:=by omega
  have HG:=zh (bc.o fun i h=>hA.o i h h);go_wp2;go_ret;exact⟨Ag HG.o.symm,hB.o⟩
end Ci
end
section
open Go.RowKit Go.Shelf
namespace Ci
open Nt
structure StIn(w:World)(s:SR)(Ap Ac Av:Option Addr):Prop where
 ps:InStr w Ap s.ps
 cap:InLk w Ac s.cap
 vot:InLk w Av s.vot
 np:s.ps.length<=140737488355328
 nc:s.cap.length<=140737488355328
 nv:s.vot.length<=140737488355328
 zp:∀x,x∈s.ps->x.size<=140737488355328
 zc:∀x,x∈s.cap->x.2.2.2.1.size<=140737488355328/\x.2.2.2.2.size<=140737488355328
 zv:∀x,x∈s.vot->x.2.2.2.1.size<=140737488355328/\x.2.2.2.2.size<=140737488355328
 ic:∀x,x∈s.cap->(-9223372036854775808<=x.1/\x.1<=9223372036854775807)/\(-9223372036854775808<=x.2.1/\x.2.1<=9223372036854775807)
 iv:∀x,x∈s.vot->(-9223372036854775808<=x.1/\x.1<=9223372036854775807)/\(-9223372036854775808<=x.2.1/\x.2.1<=9223372036854775807)
theorem StIn.below{w w':World}{s:SR}{Ap Ac Av:Option Addr}(h:StIn w s Ap Ac Av)(hb:Below w.heap.size w w'):StIn w' s Ap Ac Av :=
 ⟨h.ps.below hb,h.cap.below hb,h.vot.below hb,h.np,h.nc,h.nv,h.zp,h.zc,h.zv,h.ic,h.iv⟩
theorem OD(t:TypeId)(a b:ByteArray):binOp .leq t (.string a) (.string b)=pure (.bool (IP a b)):=by simp[binOp,Op.stringOp,IP]
abbrev SC(s:SR)(Ap Ac Av:Option Addr)(cp cc cv:Nat):List Value:=[.slice Ap s.ps.length cp,.slice Ac s.cap.length cc,.slice Av s.vot.length cv]
theorem G8(s:SR)(Ap Ac Av:Option Addr)(cp cc cv:Nat)(w:World)(hE:Env w)(hs:StIn w s Ap Ac Av):
 Calls prog 24 #[.agg #[.slice Ap s.ps.length cp,.slice Ac s.cap.length cc,.slice Av s.vot.length cv]] w fun e w'=>e=.returned (.bool (Am s))/\Below w.heap.size w w':=by
 have al:=hs.np;have aw:=zh (fun(k:Nat) (h:k<s.ps.length) (hb:¬C4 s.ps k h)=>Jj (l:=s.ps) h hb);have av:=zh (Jk (l:=s.ps));have ax:Hid (Bk (w.alloc (.cells #[.slice Ap s.ps.length cp,.slice Ac s.cap.length cc,.slice Av s.vot.length cv] 25)) w.heap.size 25 (SC s Ap Ac Av cp cc cv)):=Bk.new w _ _;have au:Hid (Below w.heap.size w (w.alloc (.cells #[.slice Ap s.ps.length cp,.slice Ac s.cap.length cc,.slice Av s.vot.length cv] 25))):=(zI _ w).alloc (zB _) _;have kg:=zh (fun A cap nb l W hE hl h1 h2 h3 h4 h5=>RR A cap s.ps.length nb l W hE hl h1 h2 h3 h4 h5);replace hE:=zh hE;replace hs:=zh hs;go_enter func24,ntmps24;go_wp2
 go_loopw [10] (fun i wr=>∃k:Nat,k<=s.ps.length/\i=.int .i64 (k:Int)/\Hid (Below w.heap.size w wr)/\Hid (Bk wr w.heap.size 25 (SC s Ap Ac Av cp cc cv))/\Hid (∀i (h:i<s.ps.length),i<k->C4 s.ps i h)) (fun i _=>s.ps.length-(intOf i).toNat)
 case atStart=>exact⟨0,zO _,rfl,au,ax,fun i _ h=>absurd h (zi _)⟩
 case round=>
  obtain⟨k,hk,rfl,hB,hX,hA⟩:=hrel;clear ax au
  by_cases hlt:k<s.ps.length
  .obtain ⟨b,o,rfl,ay,hc⟩:=(hs.o.below hB.o).ps (by omega);have e1:=hc k hlt;have e0:Hid (0<k->wr.cell? ⟨b,o+(k-1),none⟩=some (.string (s.ps[k-1]'(by omega)))):=fun h=>hc (k-1) (by omega);have zx:=hs.o.zp s.ps[k] (zQ hlt);have ak:=zh (aw.o k hlt)
   have ag:Hid (C4 s.ps k hlt->∀i (h:i<s.ps.length),i<k+1->C4 s.ps i h):=fun h i hi h2=>by
    by_cases e:i=k
    .subst e;exact h
    exact hA.o i hi (by omega)
   have a:Hid (C4 s.ps k hlt<->A4 s.ps[k]=true/\(0<k->IP s.ps[k] (s.ps[k-1]'(by omega))=false)):=wY;obtain⟨nm,ar⟩:∃x,x=s.ps[k]:=⟨_,rfl⟩;rw[<-ar]at e1 zx a;replace ar:=zh ar;have u0:=hX.o.c0;have u9:=hX.o.lt;have i0:(0:Int)<=(k:Int):=by omega
   have i1:(k:Int)<(s.ps.length:Int):=by omega
   have kn:=MT nm;clear hc
   cases aa:A4 nm with
   |false=>
    have HG:Hid (Am s=false):=by
     have:FN s.ps=false:=ak.o fun h=>by have:=(a.o.1 h).1;rw[aa]at this;cases this
     unfold Hid Am;rw[this];rfl
    rw[aa]at kn;replace kn:=zh kn;clear aa a ag
    go_wp2_with fail
    refine(kn.o _ (by omega)).q fun w2 hb=>?_;have ad:=hB.t hb;clear hb;go_wp2;go_ret;exact⟨Ag HG.o.symm,ad.o⟩
   |true=>
    rw[aa]at kn;replace kn:=zh kn
    by_cases hk0:k=0
    .have m1:decide (0<(k:Int))=false:=zD (by omega);have m2:decide (0<k)=false:=zD (by omega);have HN:=zh (ag.o (a.o.2 ⟨aa,fun h=>by omega⟩));replace hk0:=zh hk0;clear aa a ag ak
     go_wp2_with fail
     refine(kn.o _ (by omega)).q fun w2 hb=>?_;have ad:=hB.t hb;have ab:=zh (hX.o.below hb);clear hb e1 u0 u9;go_wp2
     go_roundw
     case rel=>exact⟨k+1,by omega,by go_num,ad,ab,HN⟩
     case measure=>simp[intOf];omega
    have m1:decide (0<(k:Int))=true:=zH (by omega);have m2:decide (0<k)=true:=zH (by omega);have e2:=e0.o (by omega);obtain⟨pm,an⟩:∃x,x=s.ps[k-1]'(by omega):=⟨_,rfl⟩;rw[<-an]at e2
    have ae:Hid (C4 s.ps k hlt<->A4 nm=true/\IP nm pm=false):=by
     rw[an];exact⟨fun h=>⟨(a.o.1 h).1,(a.o.1 h).2 (by omega)⟩,fun h=>a.o.2 ⟨h.1,fun _=>h.2⟩⟩
    replace an:=zh an;have ao:=OD 9 nm pm;have j1:(0:Int)<=(k:Int)-1:=by omega
    have j2:(k:Int)-1<(s.ps.length:Int):=by omega
    have j3:((k:Int)-1).toNat=k-1:=by omega
    cases aj:IP nm pm with
    |true=>
     have HG:Hid (Am s=false):=by
      have:FN s.ps=false:=ak.o fun h=>by have:=(ae.o.1 h).2;rw[aj]at this;cases this
      unfold Hid Am;rw[this];rfl
     rw[aj]at ao;clear aa a ag ae aj e0 ak
     go_wp2_with fail
     refine(kn.o _ (by omega)).q fun w2 hb=>?_;have ad:=hB.t hb;have ab:=zh (hX.o.below hb);replace e2:=(hb.cell (p:=⟨b,o+(k-1),none⟩) ay).trans e2;clear hb e1 u0 u9;have u0:=ab.o.c0;have u9:=ab.o.lt;go_wp2;go_ret;exact⟨Ag HG.o.symm,ad.o⟩
    |false=>
     have HN:=zh (ag.o (ae.o.2 ⟨aa,aj⟩));rw[aj]at ao;clear aa a ag ae aj e0 ak
     go_wp2_with fail
     refine(kn.o _ (by omega)).q fun w2 hb=>?_;have ad:=hB.t hb;have ab:=zh (hX.o.below hb);replace e2:=(hb.cell (p:=⟨b,o+(k-1),none⟩) ay).trans e2;clear hb e1 u0 u9;have u0:=ab.o.c0;have u9:=ab.o.lt;go_wp2
     go_roundw
     case rel=>exact⟨k+1,by omega,by go_num,ad,ab,HN⟩
     case measure=>simp[intOf];omega
  obtain rfl:k=s.ps.length:=by omega
  have af:=av.o fun i h=>hA.o i h h
  have HG:Hid (Am s=(decide (s.ps.length<=60)&&(Dc s.ps.length s.cap&&Dc s.ps.length s.vot))):=by
   unfold Hid Am;rw[af];rfl
  clear af hA av aw;have u0:=hX.o.c0;have u1:=hX.o.c1;have u2:=hX.o.c2;have u9:=hX.o.lt;have aB:=zh (hX.o.alloc (.cells #[.int .i64 (s.ps.length:Int)] 3));have aq:Hid (Bk (wr.alloc (.cells #[.int .i64 (s.ps.length:Int)] 3)) wr.heap.size 3 [.int .i64 (s.ps.length:Int)]):=Bk.new wr _ _;have d:=zh (hB.o.alloc hB.o.size (.cells #[.int .i64 (s.ps.length:Int)] 3))
  by_cases h60:s.ps.length<=60
  .cases ai:Dc s.ps.length s.cap with
   |false=>
    have kc:=zh (kg.o Ac cc wr.heap.size s.cap _ (hE.o.below d.o) (hs.o.below d.o).cap hs.o.nc al (aq.o.c0) hs.o.zc hs.o.ic);rw[ai]at kc;rw[ai,xw,Bool.and_false]at HG;replace HG:=zh HG.o;clear ai kg
    go_wp2_with fail
    refine kc.o.q fun w4 hb=>?_;have ah:=d.t hb;clear hb;go_wp2;go_ret;exact⟨Ag HG.o.symm,ah.o⟩
   |true=>
    have kc:=zh (kg.o Ac cc wr.heap.size s.cap _ (hE.o.below d.o) (hs.o.below d.o).cap hs.o.nc al (aq.o.c0) hs.o.zc hs.o.ic);have kv:=zh (fun W h1 h2 h3=>kg.o Av cv wr.heap.size s.vot W h1 h2 hs.o.nv al h3 hs.o.zv hs.o.iv);rw[ai]at kc;rw[ai,xF,zH h60,xF]at HG;replace HG:=zh HG.o;clear ai kg
    go_wp2_with fail
    refine kc.o.q fun w4 hb=>?_;have ah:=d.t hb;have am:=zh (aB.o.below hb);have aA:=zh (aq.o.below hb);clear hb u0 u1 u2 u9;have u0:=am.o.c0;have u1:=am.o.c1;have u2:=am.o.c2;have u9:=am.o.lt
    go_wp2_with fail
    refine(kv.o _ (hE.o.below ah.o) (hs.o.below ah.o).vot (aA.o.c0)).q fun w5 hb=>?_;have az:=ah.t hb;clear hb;go_wp2;go_ret;exact⟨Ag (by rw[HG.o]),az.o⟩
  have m1:decide ((s.ps.length:Int)<=60)=false:=zD (by omega);have m2:decide (s.ps.length<=60)=false:=zD h60;rw[m2,xw]at HG;replace HG:=zh HG.o;go_wp2;go_ret;exact⟨Ag HG.o.symm,d.o⟩
end Ci
end
section
open Go.ChangeShapes Go.WideShapes Go.ChangeAt Go.RowKit Go.Shelf Go.Joins Go.Deep
namespace Ci
open Nt
section
variable {H:Type}
theorem Ig{P:Program}{e:TypeId}{d:DataW H}:∀{l:List (DataW H)},d∈l->∀m∈d.weights P e,m∈DataW.weightsAll P e l:=by
 intro l
 induction l with
 |nil=>intro h;cases h
 |cons a l ih=>
  intro h m hm;rw[DataW.weightsAll,yz]
  rcases List.mem_cons.1 h with rfl|h
  .exact .inl hm
  exact .inr (ih h m hm)
theorem FA{enc:TypeId×Value->H}{P:Program}{W W':World}{base:Nat}{sp':Nat->Bool}(hl:laidOutB P=true):∀{ts:List TypeId} {vs:List Value} {ds:List (DataW H)} {ps:List MemPlace},
 (∀t∈ts,P.readableRec t=true/\t<P.types.size)->DataW.TrodAll enc P W base (fun _=>true) true ts vs ds ps->(∀p∈ps,W.sameAt W' p)->(∀p∈ps,sp' p.block=true)->DataW.TrodAll enc P W' base sp' true ts vs ds ps
 | [],[],[],_,_,h,_,_=>h
 |_ :: _,_::_,_::_,_,hT,⟨p,q,h1,h2,e⟩,hs,hb=>
  ⟨p,q,WideElems.Trod_stays hl (hT _ (List.mem_cons.2 (.inl rfl))).1 (hT _ (List.mem_cons.2 (.inl rfl))).2 h1 (fun x hx=>hs x (by rw[e];exact yq _ hx)) (fun x hx=>hb x (by rw[e];exact yq _ hx)),
    FA hl (fun t ht=>hT t (List.mem_cons.2 (.inr ht))) h2 (fun x hx=>hs x (by rw[e];exact xE _ hx)) (fun x hx=>hb x (by rw[e];exact xE _ hx)),e⟩
theorem Lj{ts:List TypeId}{ds:List (DataW H)}{j:Nat}{t:TypeId}{d:DataW H}(a:(DataW.weightsEach prog ts ds).all (·<=reachBytes)=true)(ht:ts[j]? = some t)(hd:ds[j]? = some d):∀m∈d.weights prog t,m<=140737488351232:=fun m hm=>
 zf (List.all_eq_true.1 a _ (DataW.weights_mem_each (P:=prog) ht hd m hm))
theorem Hz{α:Type}{f:α->DataW H}{l:List α}{d:DataW H}{t e:TypeId}(ht:prog.underlying t=some (.slice e))(hb:0<prog.bytesOf e)(h:Ka f l d)(hw:∀m∈d.weights prog t,m<=140737488351232):
 l.length<=140737488355328/\∀x∈l,∀m∈(f x).weights prog e,m<=140737488351232:=by
 rcases h with⟨_,rfl⟩|⟨rest,rfl⟩
 .exact⟨by simp,fun x h=>absurd h (by simp)⟩
 have e1:(DataW.slice (l.map f) rest).weights prog t=((l.map f).length+rest.length)*prog.bytesOf e::(DataW.weightsAll prog e (l.map f)++DataW.weightsAll prog e rest):=by
  simp[DataW.weights,ht]
 rw[e1]at hw;have h1:=hw _ (yG ..);rw[zU]at h1;refine⟨?_,fun x hx m hm=>hw _ (zt _ (yq _ (Ig (List.mem_map_of_mem (f:=f) hx) m hm)))⟩;have h2:l.length<=(l.length+rest.length)*prog.bytesOf e:=zV (Nat.le_add_right _ _) (vQ _ hb);omega
theorem RS{x:ByteArray}(h:∀m∈(RK (H:=H) x).weights prog 9,m<=140737488351232):x.size<=140737488355328:=by
 have h1:=h x.data.toList.length (by simp[RK,DataW.weights]);have z1:x.size=x.data.toList.length:=xM _;omega
theorem OE{x:Lk}(h:∀m∈(lkD (H:=H) x).weights prog 55,m<=140737488351232):x.2.2.2.1.size<=140737488355328/\x.2.2.2.2.size<=140737488355328:=by
 have h1:=h x.2.2.2.1.data.toList.length (by simp[lkD,DataW.weights,DataW.weightsEach,underlying55,underlying34]);have h2:=h x.2.2.2.2.data.toList.length (by simp[lkD,DataW.weights,DataW.weightsEach,underlying55,underlying34]);have z1:x.2.2.2.1.size=x.2.2.2.1.data.toList.length:=xM _;have z2:x.2.2.2.2.size=x.2.2.2.2.data.toList.length:=xM _;omega
end
section
variable {H:Type} {enc:TypeId×Value->H} {w:World} {base:Nat} {held:Bool}
def Vz(s:SR)(d:DataW H):Prop:=∃dp dc dv,d=.agg [dp,dc,dv]/\Ka RK s.ps dp/\Ka lkD s.cap dc/\Ka lkD s.vot dv
theorem RT:prog.cellsOf 25=3:=by kernel_rfl
theorem RU{r:Go.Reach}{b0:Nat}{v:Value}{d:DataW H}{p:List MemPlace}(hv:Value.okWide prog w r b0 25 v)(h:DataW.Trod enc prog w base (fun _=>true) held 25 v d p):
 ∃(Ap Ac Av:Option Addr)(cp cc cv:Nat)(s:SR),v=.agg #[.slice Ap s.ps.length cp,.slice Ac s.cap.length cc,.slice Av s.vot.length cv]/\Vz s d/\InStr w Ap s.ps/\InLk w Ac s.cap/\InLk w Av s.vot/\(∀y,y∈s.cap->DM y.1/\DM y.2.1)/\(∀y,y∈s.vot->DM y.1/\DM y.2.1)/\s.cap.length<=cc:=by
 obtain⟨c0,c1,c2,y0,y1,y2,m,rfl,rfl,_,a,aa,ab⟩:=open_agg3 underlying25 (by kernel_rfl) RT hv h;obtain⟨Ap,cp,ps,e0,i0,m0⟩:=MS a;obtain⟨Ac,cc,cap,e1,i1,m1,z1,k1⟩:=Jn aa;obtain⟨Av,cv,vot,e2,i2,m2,z2⟩:=RM ab;simp only[List.cons.injEq,and_true]at e0 e1 e2;subst e0 e1 e2;exact⟨Ap,Ac,Av,cp,cc,cv,⟨ps,cap,vot⟩,rfl,⟨_,_,_,rfl,i0,i1,i2⟩,m0,m1,m2,z1,z2,k1⟩
theorem Uc{r:Go.Reach}{b0:Nat}{v:Value}{d:DataW H}{p:List MemPlace}(hv:Value.okWide prog w r b0 25 v)(h:DataW.Trod enc prog w base (fun _=>true) held 25 v d p):
 ∃(Ap Ac Av:Option Addr)(cp cc cv:Nat)(s:SR),v=.agg #[.slice Ap s.ps.length cp,.slice Ac s.cap.length cc,.slice Av s.vot.length cv]/\Vz s d/\InStr w Ap s.ps/\InLk w Ac s.cap/\InLk w Av s.vot/\(∀y,y∈s.cap->DM y.1/\DM y.2.1)/\∀y,y∈s.vot->DM y.1/\DM y.2.1:=by
 obtain⟨Ap,Ac,Av,cp,cc,cv,s,h1,h2,h3,h4,h5,h6,h7,_⟩:=RU hv h;exact⟨Ap,Ac,Av,cp,cc,cv,s,h1,h2,h3,h4,h5,h6,h7⟩
theorem Ud{s:SR}{d:DataW H}{Ap Ac Av:Option Addr}(h:Vz s d)(hw:∀m∈d.weights prog 25,m<=140737488351232)(m0:InStr w Ap s.ps)(m1:InLk w Ac s.cap)(m2:InLk w Av s.vot)
 (z1:∀y,y∈s.cap->DM y.1/\DM y.2.1)(z2:∀y,y∈s.vot->DM y.1/\DM y.2.1):StIn w s Ap Ac Av:=by
 obtain⟨dp,dc,dv,rfl,i0,i1,i2⟩:=h
 have e:(DataW.agg [dp,dc,dv]).weights prog 25=dp.weights prog 22++(dc.weights prog 23++dv.weights prog 23):=by
  simp[DataW.weights,DataW.weightsEach,underlying25]
 rw[e]at hw;obtain⟨a1,a2⟩:=Hz underlying22 (vM (by decide:0<16) (by kernel_rfl)) i0 fun m hm=>hw m (yq _ hm);obtain⟨b1,b2⟩:=Hz underlying23 (vM (by decide:0<56) (by kernel_rfl)) i1 fun m hm=>hw m (xE _ (yq _ hm));obtain⟨c1,c2⟩:=Hz underlying23 (vM (by decide:0<56) (by kernel_rfl)) i2 fun m hm=>hw m (xE _ (xE _ hm));exact⟨m0,m1,m2,a1,b1,c1,fun x hx=>RS (a2 x hx),fun x hx=>OE (b2 x hx),fun x hx=>OE (c2 x hx),z1,z2⟩
theorem MU{r:Go.Reach}{b0:Nat}{v:Value}{d:DataW H}{p:List MemPlace}(hv:Value.okWide prog w r b0 26 v)(h:DataW.Trod enc prog w base (fun _=>true) held 26 v d p):
 ∃(A:Option Addr)(cap:Nat)(l:List Int),v=.slice A l.length cap/\Ka Vy l d/\InInt w A l/\∀y,y∈l->DM y:=by
 obtain⟨a,len,c,rfl⟩:=okWide_slice underlying26 hv;obtain⟨n,hn⟩:=h;obtain⟨A,cap,l,e,h1,h2,h3⟩:=MR hn;refine⟨A,cap,l,?_,h1,h2,h3⟩
 simpa [Value.cells] using e
end
end Ci
end
section
open Go.RowKit Go.Shelf
namespace Sh
open Nt Ci
theorem Gh(q:Rat):∃g n d,qv q=.agg #[.bool g,.string n,.string d]:=⟨_,_,_,rfl⟩
theorem RV(n:Int):ofQ n 1=(n:Rat):=by
 unfold ofQ;rw[show decide ((1:Int)<0)=false from rfl]
 have e:sg (!(decide (n<0)==false)) n.natAbs=n:=by
  have:=Cz n
  cases h:decide (n<0) with
  |true=>rw[h]at this;exact this
  |false=>rw[h]at this;exact this
 rw[e];exact Rat.mkRat_one n
theorem Jq(k:Int)(hk:-10<=k/\k<=10)(w:World)(hE:Env w):
 Calls prog 42 #[.int .i64 k] w fun e w'=>e=.returned (qv (k:Rat))/\Below w.heap.size w w':=by
 obtain⟨g,n,d,hq⟩:=Gh (k:Rat);have s:Hid (Below w.heap.size w (w.alloc (.cells #[.bool false,.string ⟨#[]⟩,.string ⟨#[]⟩] 34))):=((zI _ w).alloc (zB _) _);have ad:Hid (Bk (w.alloc (.cells #[.bool false,.string ⟨#[]⟩,.string ⟨#[]⟩] 34)) (w.heap.size) 34 [.bool false,.string ⟨#[]⟩,.string ⟨#[]⟩]):=by have h:=Bk.new w 34 [.bool false,.string ⟨#[]⟩,.string ⟨#[]⟩]; exact h
 have ko:Hid (Calls prog 81 #[.int .i64 k,.int .i64 1] (w.alloc (.cells #[.bool false,.string ⟨#[]⟩,.string ⟨#[]⟩] 34)) fun e w'=>e=.returned (.tuple #[.agg #[.bool g,.string n,.string d],.int .i64 0])/\Below ((w.alloc (.cells #[.bool false,.string ⟨#[]⟩,.string ⟨#[]⟩] 34))).heap.size (w.alloc (.cells #[.bool false,.string ⟨#[]⟩,.string ⟨#[]⟩] 34)) w'):=by have h:=Jm k 1 (by omega) (by omega) (by omega) (by omega) (by omega) (w.alloc (.cells #[.bool false,.string ⟨#[]⟩,.string ⟨#[]⟩] 34)) (hE.below s.o);rw[RV,hq]at h;exact h
 have u1:=hk.1;have u2:=hk.2;replace hE:=zh hE;go_enter func42,ntmps42
 go_wp2_with fail
 refine ko.o.q fun w3 hb=>?_;have ab:=s.t hb;have ae:=zh (ad.o.below hb);clear hb s ad ko;have af:Hid (Below w.heap.size w (w3.alloc (.cells #[.bool g,.string n,.string d] 34))):=ab.o.alloc ab.o.size _;have a:=zh (ae.o.alloc (.cells #[.bool g,.string n,.string d] 34));clear ab ae;have ah:Hid (Bk (w3.alloc (.cells #[.bool g,.string n,.string d] 34)) w3.heap.size 34 [.bool g,.string n,.string d]):=Bk.new _ _ _;have r0:=a.o.c0;have r1:=a.o.c1;have r2:=a.o.c2;have r9:=a.o.lt;have ai:=a.o.frozen 0;have aj:=a.o.frozen 1;have ak:=a.o.frozen 2;have ag:Hid (Below w.heap.size w ((((w3.alloc (.cells #[.bool g,.string n,.string d] 34)).setCell ⟨w.heap.size,0,none⟩ (.bool g)).setCell ⟨w.heap.size,1,none⟩ (.string n)).setCell ⟨w.heap.size,2,none⟩ (.string d))):=(((af.o.setCell (p:=⟨w.heap.size,0,none⟩) (zB _) _).setCell (p:=⟨w.heap.size,1,none⟩) (zB _) _).setCell (p:=⟨w.heap.size,2,none⟩) (zB _) _);have aa:Hid (Bk ((((w3.alloc (.cells #[.bool g,.string n,.string d] 34)).setCell ⟨w.heap.size,0,none⟩ (.bool g)).setCell ⟨w.heap.size,1,none⟩ (.string n)).setCell ⟨w.heap.size,2,none⟩ (.string d)) (w.heap.size) 34 [.bool g,.string n,.string d]):=(Bk.set (Bk.set (Bk.set a.o 0 (.bool g)) 1 (.string n)) 2 (.string d));go_wp2
 (try simp only[Exit.inBlock,Exit.then])
 have s0:=aa.o.c0;have s1:=aa.o.c1;have s2:=aa.o.c2;have s9:=aa.o.lt;refine zX (v:=.agg #[.bool g,.string n,.string d]) (by simp[results,results42,go_sem,s0,s1,s2]) rfl ⟨by rw[hq],ag.o⟩
theorem MV(s x y:Rat)(hs:ShortQ s)(hx:ShortQ x)(hy:ShortQ y)(ax:ShortQ (x*y))(w:World)(hE:Env w):
 Calls prog 85 #[qv s,qv x,qv y] w fun e w'=>e=.returned (qv (s+x*y))/\Below w.heap.size w w':=by
 obtain⟨g1,n1,d1,q1⟩:=Gh s;obtain⟨g2,n2,d2,q2⟩:=Gh x;obtain⟨g3,n3,d3,q3⟩:=Gh y;obtain⟨g4,n4,d4,q4⟩:=Gh (x*y);obtain⟨g5,n5,d5,q5⟩:=Gh (s+x*y);have km:Hid (∀W,Env W->Calls prog 28 #[.agg #[.bool g2,.string n2,.string d2],.agg #[.bool g3,.string n3,.string d3]] W fun e w'=>e=.returned (.tuple #[.agg #[.bool g4,.string n4,.string d4],.int .i64 0])/\Below W.heap.size W w'):=fun W hW=>by have h:=G5 x y hx hy W hW;rw[q2,q3,q4]at h;exact h
 have ka:Hid (∀W,Env W->Calls prog 29 #[.agg #[.bool g1,.string n1,.string d1],.agg #[.bool g4,.string n4,.string d4]] W fun e w'=>e=.returned (.tuple #[.agg #[.bool g5,.string n5,.string d5],.int .i64 0])/\Below W.heap.size W w'):=fun W hW=>by have h:=PF s (x*y) hs ax W hW;rw[q1,q4,q5]at h;exact h
 rw[q1,q2,q3,q5];clear q1 q2 q3 q4 q5 hs hx hy ax;have ae:Hid (Below w.heap.size w ((((w.alloc (.cells #[.bool g1,.string n1,.string d1] 34)).alloc (.cells #[.bool g2,.string n2,.string d2] 34)).alloc (.cells #[.bool g3,.string n3,.string d3] 34)).alloc (.cells #[.bool false,.string ⟨#[]⟩,.string ⟨#[]⟩] 34))):=(((((zI _ w).alloc (zB _) _).alloc (by simp) _).alloc (by simp;omega) _).alloc (by simp;omega) _);have aj:Hid (Bk ((((w.alloc (.cells #[.bool g1,.string n1,.string d1] 34)).alloc (.cells #[.bool g2,.string n2,.string d2] 34)).alloc (.cells #[.bool g3,.string n3,.string d3] 34)).alloc (.cells #[.bool false,.string ⟨#[]⟩,.string ⟨#[]⟩] 34)) (w.heap.size) 34 [.bool g1,.string n1,.string d1]):=by have h:=Bk.new w 34 [.bool g1,.string n1,.string d1];have h:=h.alloc (.cells #[.bool g2,.string n2,.string d2] 34);have h:=h.alloc (.cells #[.bool g3,.string n3,.string d3] 34);have h:=h.alloc (.cells #[.bool false,.string ⟨#[]⟩,.string ⟨#[]⟩] 34); exact h
 have ab:Hid (Bk ((((w.alloc (.cells #[.bool g1,.string n1,.string d1] 34)).alloc (.cells #[.bool g2,.string n2,.string d2] 34)).alloc (.cells #[.bool g3,.string n3,.string d3] 34)).alloc (.cells #[.bool false,.string ⟨#[]⟩,.string ⟨#[]⟩] 34)) (w.heap.size+1) 34 [.bool g2,.string n2,.string d2]):=by have h:=Bk.new (w.alloc (.cells #[.bool g1,.string n1,.string d1] 34)) 34 [.bool g2,.string n2,.string d2];have h:=h.alloc (.cells #[.bool g3,.string n3,.string d3] 34);have h:=h.alloc (.cells #[.bool false,.string ⟨#[]⟩,.string ⟨#[]⟩] 34);simp only[zT]at h;exact h
 have ad:Hid (Bk ((((w.alloc (.cells #[.bool g1,.string n1,.string d1] 34)).alloc (.cells #[.bool g2,.string n2,.string d2] 34)).alloc (.cells #[.bool g3,.string n3,.string d3] 34)).alloc (.cells #[.bool false,.string ⟨#[]⟩,.string ⟨#[]⟩] 34)) (w.heap.size+1+1) 34 [.bool g3,.string n3,.string d3]):=by have h:=Bk.new ((w.alloc (.cells #[.bool g1,.string n1,.string d1] 34)).alloc (.cells #[.bool g2,.string n2,.string d2] 34)) 34 [.bool g3,.string n3,.string d3];have h:=h.alloc (.cells #[.bool false,.string ⟨#[]⟩,.string ⟨#[]⟩] 34);simp only[zT]at h;exact h
 have ar:Hid (Bk ((((w.alloc (.cells #[.bool g1,.string n1,.string d1] 34)).alloc (.cells #[.bool g2,.string n2,.string d2] 34)).alloc (.cells #[.bool g3,.string n3,.string d3] 34)).alloc (.cells #[.bool false,.string ⟨#[]⟩,.string ⟨#[]⟩] 34)) (w.heap.size+1+1+1) 34 [.bool false,.string ⟨#[]⟩,.string ⟨#[]⟩]):=by have h:=Bk.new (((w.alloc (.cells #[.bool g1,.string n1,.string d1] 34)).alloc (.cells #[.bool g2,.string n2,.string d2] 34)).alloc (.cells #[.bool g3,.string n3,.string d3] 34)) 34 [.bool false,.string ⟨#[]⟩,.string ⟨#[]⟩];simp only[zT]at h;exact h
 replace hE:=zh hE;have k1:=zh (km.o ((((w.alloc (.cells #[.bool g1,.string n1,.string d1] 34)).alloc (.cells #[.bool g2,.string n2,.string d2] 34)).alloc (.cells #[.bool g3,.string n3,.string d3] 34)).alloc (.cells #[.bool false,.string ⟨#[]⟩,.string ⟨#[]⟩] 34)) (hE.o.below ae.o));have y0:=ab.o.c0;have y1:=ab.o.c1;have y2:=ab.o.c2;have y9:=ab.o.lt;have z0:=ad.o.c0;have z1:=ad.o.c1;have z2:=ad.o.c2;have z9:=ad.o.lt;go_enter func85,ntmps85
 go_wp2_with fail
 refine k1.o.q fun w3 hb=>?_;have ah:=ae.t hb;have ak:=zh (aj.o.below hb);have al:=zh (ab.o.below hb);have an:=zh (ad.o.below hb);have au:=zh (ar.o.below hb);clear hb ae aj ab ad ar k1 y0 y1 y2 y9 z0 z1 z2 z9;have af:Hid (Below w.heap.size w (w3.alloc (.cells #[.bool g4,.string n4,.string d4] 34))):=ah.o.alloc ah.o.size _;have aa:=zh (ak.o.alloc (.cells #[.bool g4,.string n4,.string d4] 34));have am:=zh (al.o.alloc (.cells #[.bool g4,.string n4,.string d4] 34));have ao:=zh (an.o.alloc (.cells #[.bool g4,.string n4,.string d4] 34));have av:=zh (au.o.alloc (.cells #[.bool g4,.string n4,.string d4] 34));clear ah ak al an au;have aq:Hid (Bk (w3.alloc (.cells #[.bool g4,.string n4,.string d4] 34)) w3.heap.size 34 [.bool g4,.string n4,.string d4]):=Bk.new _ _ _;have k2:=zh (ka.o (w3.alloc (.cells #[.bool g4,.string n4,.string d4] 34)) (hE.o.below af.o));have x0:=aa.o.c0;have x1:=aa.o.c1;have x2:=aa.o.c2;have x9:=aa.o.lt
 go_wp2_with fail
 refine k2.o.q fun w5 hb=>?_;have ai:=af.t hb;have a:=zh (aa.o.below hb);have aB:=zh (am.o.below hb);have aC:=zh (ao.o.below hb);have aw:=zh (av.o.below hb);have aD:=zh (aq.o.below hb);clear hb af aa am ao av aq k2 x0 x1 x2 x9;have x0:=a.o.c0;have x1:=a.o.c1;have x2:=a.o.c2;have x9:=a.o.lt;have aH:=a.o.frozen 0;have aI:=a.o.frozen 1;have aJ:=a.o.frozen 2;have ay:Hid (Below w.heap.size w (((w5.setCell ⟨w.heap.size,0,none⟩ (.bool g5)).setCell ⟨w.heap.size,1,none⟩ (.string n5)).setCell ⟨w.heap.size,2,none⟩ (.string d5))):=(((ai.o.setCell (p:=⟨w.heap.size,0,none⟩) (zB _) _).setCell (p:=⟨w.heap.size,1,none⟩) (zB _) _).setCell (p:=⟨w.heap.size,2,none⟩) (zB _) _);have aA:=zh ((Bk.set (Bk.set (Bk.set a.o 0 (.bool g5)) 1 (.string n5)) 2 (.string d5)));have d:=zh ((((aw.o.far (p:=⟨w.heap.size,0,none⟩) (by first|(simp only[];omega)|omega) (.bool g5)).far (p:=⟨w.heap.size,1,none⟩) (by first|(simp only[];omega)|omega) (.string n5)).far (p:=⟨w.heap.size,2,none⟩) (by first|(simp only[];omega)|omega) (.string d5)));clear ai a aw;have r0:=d.o.c0;have r1:=d.o.c1;have r2:=d.o.c2;have r9:=d.o.lt;have aE:=d.o.frozen 0;have aF:=d.o.frozen 1;have aG:=d.o.frozen 2;have az:Hid (Below w.heap.size w ((((((w5.setCell ⟨w.heap.size,0,none⟩ (.bool g5)).setCell ⟨w.heap.size,1,none⟩ (.string n5)).setCell ⟨w.heap.size,2,none⟩ (.string d5)).setCell ⟨w.heap.size+1+1+1,0,none⟩ (.bool g5)).setCell ⟨w.heap.size+1+1+1,1,none⟩ (.string n5)).setCell ⟨w.heap.size+1+1+1,2,none⟩ (.string d5))):=(((ay.o.setCell (p:=⟨w.heap.size+1+1+1,0,none⟩) (by simp only[];omega) _).setCell (p:=⟨w.heap.size+1+1+1,1,none⟩) (by simp only[];omega) _).setCell (p:=⟨w.heap.size+1+1+1,2,none⟩) (by simp only[];omega) _);have ag:Hid (Bk ((((((w5.setCell ⟨w.heap.size,0,none⟩ (.bool g5)).setCell ⟨w.heap.size,1,none⟩ (.string n5)).setCell ⟨w.heap.size,2,none⟩ (.string d5)).setCell ⟨w.heap.size+1+1+1,0,none⟩ (.bool g5)).setCell ⟨w.heap.size+1+1+1,1,none⟩ (.string n5)).setCell ⟨w.heap.size+1+1+1,2,none⟩ (.string d5)) (w.heap.size+1+1+1) 34 [.bool g5,.string n5,.string d5]):=(Bk.set (Bk.set (Bk.set d.o 0 (.bool g5)) 1 (.string n5)) 2 (.string d5));go_wp2
 (try simp only[Exit.inBlock,Exit.then])
 have s0:=ag.o.c0;have s1:=ag.o.c1;have s2:=ag.o.c2;have s9:=ag.o.lt;refine zX (v:=.agg #[.bool g5,.string n5,.string d5]) (by simp[results,results85,go_sem,s0,s1,s2]) rfl ⟨rfl,az.o⟩
end Sh
end
section
open Go.RowKit Go.Shelf
namespace Nt
def InInt(z:Int):Prop:=-9223372036854775808<=z/\z<=9223372036854775807
end Nt
end
section
open Go.RowKit
namespace Nt
def Dg(k:Nat)(q:Rat):Prop:=q.num.natAbs<10^k/\q.den<10^k
theorem Dg.mono{k m:Nat}{q:Rat}(h:Dg k q)(hk:k<=m):Dg m q:=by
 have:10^k<=10^m:=zW (by omega) hk;exact⟨zL h.1 this,zL h.2 this⟩
theorem Ih(n:Int)(d:Nat)(hd:d≠0):(mkRat n d).num.natAbs<=n.natAbs/\(mkRat n d).den<=d:=by
 have e:n=sg (decide (n<0)) n.natAbs:=(Cz n).symm;rw[e,RB _ _ _ hd,RC _ _ _ hd,Cm,Cm];exact⟨vJ _ _,vJ _ _⟩
theorem Dg.add{k m:Nat}{p q:Rat}(hp:Dg k p)(hq:Dg m q):Dg (k+m+1) (p+q):=by
 have hd:p.den*q.den≠0:=xJ p.den_nz q.den_nz;have h:=Ih (p.num*q.den+q.num*p.den) (p.den*q.den) hd;rw[FM]at h;have e:10^(k+m+1)=10^k*10^m*10:=by rw[zy,xf]
 have h1:p.num.natAbs*q.den<10^k*10^m:=xO hp.1 hq.2;have h2:q.num.natAbs*p.den<10^m*10^k:=xO hq.1 hp.2;have h3:p.den*q.den<10^k*10^m:=xO hp.2 hq.2;rw[zw (10^m)]at h2;have h4:=Int.natAbs_add_le (p.num*q.den) (q.num*p.den);rw[vZ,vZ,vN,vN]at h4;unfold Dg;rw[e];generalize 10^k*10^m=X at *;exact⟨by omega,by omega⟩
theorem Dg.neg{k:Nat}{q:Rat}(h:Dg k q):Dg k (-q):=⟨by show (-q.num).natAbs<10^k;rw[ws];exact h.1,h.2⟩
theorem Dg.sub{k m:Nat}{p q:Rat}(hp:Dg k p)(hq:Dg m q):Dg (k+m+1) (p-q):=by rw[Rat.sub_eq_add_neg];exact hp.add hq.neg
theorem Dg.mul{k m:Nat}{p q:Rat}(hp:Dg k p)(hq:Dg m q):Dg (k+m) (p*q):=by
 have hd:p.den*q.den≠0:=xJ p.den_nz q.den_nz;have h:=Ih (p.num*q.num) (p.den*q.den) hd;rw[<-Rat.mul_def']at h;have h1:p.num.natAbs*q.num.natAbs<10^k*10^m:=xO hp.1 hq.1;have h3:p.den*q.den<10^k*10^m:=xO hp.2 hq.2;rw[vZ]at h;unfold Dg;rw[xf];exact⟨by omega,by omega⟩
theorem Dg.div{k m:Nat}{p q:Rat}(hp:Dg k p)(hq:Dg m q)(h0:q≠0):Dg (k+m) (p/q):=by
 have hn:=BR h0;have hd:p.den*q.num.natAbs≠0:=xJ p.den_nz (by omega);have h:=Ih (sg (decide (p.num<0) != decide (q.num<0)) (p.num.natAbs*q.den)) (p.den*q.num.natAbs) hd;rw[RE,Cm]at h;have h1:p.num.natAbs*q.den<10^k*10^m:=xO hp.1 hq.2;have h3:p.den*q.num.natAbs<10^k*10^m:=xO hp.2 hq.1;unfold Dg;rw[xf];exact⟨by omega,by omega⟩
end Nt
end
section
open Go.RowKit Go.Shelf
namespace Nt
abbrev WS(w:World)(g1:Bool)(n1 d1:ByteArray):World:=w.alloc (.cells #[.bool g1,.string n1,.string d1] 34)
theorem Ba(w:World)(g1:Bool)(n1 d1:ByteArray):Below w.heap.size w (WS w g1 n1 d1):=(zI _ w).alloc (zB _) _
end Nt
end
section
namespace Nt
def Ao:Nat->(Nat->Rat)->Rat
 |0,_=>0
 |n+1,f=>Ao n f+f n
theorem Az{n:Nat}{f g:Nat->Rat}(h:∀i,i<n->f i=g i):Ao n f=Ao n g:=by
 induction n with
 |zero=>rfl
 |succ n ih=>unfold Ao;rw[ih fun i hi=>h i (by omega),h n (by omega)]
theorem CT{n:Nat}{f:Nat->Rat}(h:∀i,i<n->f i=0):Ao n f=0:=by
 induction n with
 |zero=>rfl
 |succ n ih=>unfold Ao;rw[ih fun i hi=>h i (by omega),h n (by omega)];exact vB 0
theorem CU(n:Nat)(f g:Nat->Rat):Ao n (fun i=>f i+g i)=Ao n f+Ao n g:=by
 induction n with
 |zero=>exact(vB 0).symm
 |succ n ih=>unfold Ao;rw[ih];grind
theorem Bo(n:Nat)(c:Rat)(f:Nat->Rat):Ao n (fun i=>c*f i)=c*Ao n f:=by
 induction n with
 |zero=>simp[Ao]
 |succ n ih=>unfold Ao;rw[ih];grind
theorem C9{n k:Nat}(f:Nat->Rat)(hk:k<n)(h:∀i,i<n->i≠k->f i=0):Ao n f=f k:=by
 induction n with
 |zero=>omega
 |succ n ih=>
  unfold Ao
  by_cases e:k=n
  .subst e;rw[CT fun i hi=>h i (by omega) (by omega)];grind
  rw[ih (by omega) fun i hi=>h i (by omega),h n (by omega) (by omega)];grind
abbrev Mx:=Nat->Nat->Rat
def Sol(n:Nat)(M:Mx)(y r:Nat->Rat):Prop:=∀i,i<n->Ao n (fun j=>M i j*y j)=r i
def V0(n:Nat)(M:Mx):Prop:=∀r,∃y,Sol n M y r
def PM(n:Nat)(M:Mx):Prop:=∀y,Sol n M y (fun _=>0)->∀i,i<n->y i=0
def Rel(n:Nat)(M M':Mx):Prop:=∃E:(Nat->Rat)->(Nat->Rat),(∀r s,(∀i,i<n->r i=s i)->∀i,i<n->E r i=E s i)/\(∀y r,Sol n M y r<->Sol n M' y (E r))/\(∀i,i<n->E (fun _=>0) i=0)/\(∀i,i<n->E (fun i=>M i n) i=M' i n)
theorem Sol.congr{n:Nat}{M:Mx}{y r s:Nat->Rat}(h:Sol n M y r)(e:∀i,i<n->r i=s i):Sol n M y s:=fun i hi=>(h i hi).trans (e i hi)
theorem Rel.refl(n:Nat)(M:Mx):Rel n M M:=⟨fun r=>r,fun _ _ h=>h,fun _ _=>wY,fun _ _=>rfl,fun _ _=>rfl⟩
def AU(k p:Nat)(M:Mx):Mx:=fun i=>if i=k then M p else if i=p then M k else M i
def Bc(k:Nat)(M:Mx):Mx:=fun i j=>if i=k/\k<=j then M k j/M k k else M i j
def CE(k i0:Nat)(M:Mx):Mx:=fun i j=>if i=i0/\k<=j then M i0 j-M i0 k*M k j else M i j
theorem RW{n k p:Nat}(M:Mx)(hk:k<n)(hp:p<n):Rel n M (AU k p M):=by
 refine⟨fun r i=>if i=k then r p else if i=p then r k else r i,?_,?_,?_,?_⟩
 .intro r s h i hi;simp only[h p hp,h k hk,h i hi]
 .intro y r;constructor
  .intro h i hi;unfold AU
   by_cases e1:i=k
   .simp only[e1,vI];exact h p hp
   by_cases e2:i=p
   .simp only[zC e1,zE e2];exact h k hk
   simp only[zC e1,zC e2];exact h i hi
  intro h i hi;unfold AU at h
  by_cases e1:i=k
  .have h2:=h p hp
   by_cases e3:p=k
   .simp only[zE e3]at h2;rw[e1,<-e3];exact h2
   simp only[zC e3,vI]at h2;rw[e1];exact h2
  by_cases e2:i=p
  .have h2:=h k hk;simp only[vI]at h2;rw[e2];exact h2
  have h2:=h i hi;simp only[zC e1,zC e2]at h2;exact h2
 .intro i _;simp
 intro i _;unfold AU
 by_cases e1:i=k
 .simp only[zE e1]
 by_cases e2:i=p
 .simp only[zC e1,zE e2]
 simp only[zC e1,zC e2]
def RX(k i:Nat)(M:Mx):Prop:=∀j,j<k->M i j=0
theorem Ue{n k:Nat}(M:Mx)(hk:k<n)(h0:M k k≠0)(hz:RX k k M):Rel n M (Bc k M):=by
 have key:∀y:Nat->Rat,Ao n (fun j=>Bc k M k j*y j)=(M k k)⁻¹*Ao n (fun j=>M k j*y j):=by
  intro y;rw[<-Bo];apply Az;intro j _;unfold Bc
  by_cases e:k<=j
  .rw[zE ⟨rfl,e⟩,xu];grind
  rw[zC (fun h=>e h.2),hz j (by omega)];grind
 have other:∀i,i≠k->Bc k M i=M i:=by
  intro i hi
  funext j
  unfold Bc;rw[zC (fun h=>hi h.1)]
 refine⟨fun r i=>if i=k then r k/M k k else r i,?_,?_,?_,?_⟩
 .intro r s h i hi;simp only[h k hk,h i hi]
 .intro y r;constructor
  .intro h i hi
   by_cases e:i=k
   .subst e;rw[key,h i hi];dsimp only;rw[zE rfl,xu,vV]
   rw[other i e];dsimp only;rw[zC e];exact h i hi
  intro h i hi
  by_cases e:i=k
  .subst e;have h2:=h i hi;rw[key]at h2;dsimp only at h2;rw[zE rfl,xu,vV (r i)]at h2;have h3:=congrArg (fun t=>M i i*t) h2;simp only[<-Rat.mul_assoc,yy _ h0,wH]at h3;exact h3
  have h2:=h i hi;rw[other i e]at h2;dsimp only at h2;rw[zC e]at h2;exact h2
 .intro i _
  by_cases e:i=k
  .simp only[zE e];rw[xu,vW]
  simp only[zC e]
 intro i _;unfold Bc;dsimp only
 by_cases e:i=k
 .rw[zE e,zE ⟨e,by omega⟩]
 rw[zC e,zC fun h=>e h.1]
theorem Uf{n k i0:Nat}(M:Mx)(hk:k<n)(d:i0<n)(a:i0≠k)(hz:RX k k M):Rel n M (CE k i0 M):=by
 have key:∀y:Nat->Rat,Ao n (fun j=>CE k i0 M i0 j*y j)=Ao n (fun j=>M i0 j*y j)-M i0 k*Ao n (fun j=>M k j*y j):=by
  intro y
  have e1:Ao n (fun j=>CE k i0 M i0 j*y j)=Ao n (fun j=>M i0 j*y j+(- M i0 k)*(M k j*y j)):=by
   apply Az;intro j _;unfold CE
   by_cases e:k<=j
   .rw[zE ⟨rfl,e⟩];grind
   rw[zC (fun h=>e h.2),hz j (by omega)];grind
  rw[e1,CU,Bo];grind
 have other:∀i,i≠i0->CE k i0 M i=M i:=by
  intro i hi
  funext j
  unfold CE;rw[zC (fun h=>hi h.1)]
 refine⟨fun r i=>if i=i0 then r i0-M i0 k*r k else r i,?_,?_,?_,?_⟩
 .intro r s h i hi;simp only[h k hk,h i hi,h i0 d]
 .intro y r;constructor
  .intro h i hi
   by_cases e:i=i0
   .subst e;rw[key,h i hi,h k hk];dsimp only;rw[zE rfl]
   rw[other i e];dsimp only;rw[zC e];exact h i hi
  intro h i hi
  by_cases e:i=i0
  .subst e;have h2:=h i hi;have h3:=h k hk;rw[key]at h2;dsimp only at h2;rw[zE rfl]at h2;rw[other k (fun e=>a e.symm)]at h3;dsimp only at h3;rw[zC (fun e=>a e.symm)]at h3;rw[h3]at h2;grind
  have h2:=h i hi;rw[other i e]at h2;dsimp only at h2;rw[zC e]at h2;exact h2
 .intro i _
  by_cases e:i=i0
  .simp only[zE e];grind
  simp only[zC e]
 intro i _;unfold CE;dsimp only
 by_cases e:i=i0
 .rw[zE e,zE ⟨e,by omega⟩]
 rw[zC e,zC fun h=>e h.1]
theorem Rel.trans{n:Nat}{A B C:Mx}(h1:Rel n A B)(h2:Rel n B C):Rel n A C:=by
 obtain⟨E,e1,e2,e3,e4⟩:=h1;obtain⟨F,f1,f2,f3,f4⟩:=h2;refine⟨fun r=>F (E r),fun r s h=>f1 _ _ (e1 r s h),fun y r=>(e2 y r).trans (f2 y (E r)),?_,?_⟩
 .intro i hi;exact(f1 _ (fun _=>0) e3 i hi).trans (f3 i hi)
 intro i hi;exact(f1 _ (fun i=>B i n) e4 i hi).trans (f4 i hi)
def Unit(n k:Nat)(M:Mx):Prop:=∀i j,i<n->j<k->M i j=if i=j then 1 else 0
theorem Unit.zeros{n k i:Nat}{M:Mx}(h:Unit n k M)(hi:i<n)(hk:k<=i):RX k i M:=fun j hj=>by rw[h i j hi hj,zC (by omega)]
theorem RY{n k:Nat}{M0 M:Mx}(h:Rel n M0 M)(hu:Unit n k M)(hk:k<n)(hz:∀i,k<=i->i<n->M i k=0):¬PM n M0:=by
 intro ht;obtain⟨E,e1,e2,e3,e4⟩:=h
 have hs:Sol n M (fun j=>if j<k then-M j k else if j=k then 1 else 0) (fun _=>0):=by
  intro i hi
  by_cases hik:i<k
  .have e:Ao n (fun j=>M i j*(if j<k then-M j k else if j=k then 1 else 0))=Ao n (fun j=>if j=i then-M i k else 0)+Ao n (fun j=>if j=k then M i k else 0):=by
    rw[<-CU];apply Az;intro j hj
    by_cases h1:j<k
    .rw[hu i j hi h1,zE h1,zC (show ¬j=k by omega)]
     by_cases h2:i=j
     .subst h2;rw[zE rfl,zE rfl];grind
     rw[zC h2,zC (fun e=>h2 e.symm)];grind
    rw[zC h1,zC (show ¬j=i by omega)]
    by_cases h2:j=k
    .subst h2;rw[zE rfl,zE rfl];grind
    rw[zC h2,zC h2];grind
   rw[e,C9 (k:=i) _ hi (fun j _ h=>zC h),C9 (k:=k) _ hk (fun j _ h=>zC h),zE rfl,zE rfl];grind
  refine CT ?_;intro j hj
  by_cases h1:j<k
  .rw[hu i j hi h1,zC (by omega)];grind
  dsimp only;rw[zC h1]
  by_cases h2:j=k
  .subst h2;rw[hz i (by omega) hi];grind
  rw[zC h2];grind
 have h0:Sol n M0 (fun j=>if j<k then-M j k else if j=k then 1 else 0) (fun _=>0):=(e2 _ _).2 (hs.congr fun i hi=>(e3 i hi).symm);have:=ht _ h0 k hk;simp at this
theorem RZ{n:Nat}{M0 M:Mx}(h:Rel n M0 M)(hu:Unit n n M):(∀y,Sol n M0 y (fun i=>M0 i n)<->∀i,i<n->y i=M i n)/\PM n M0/\V0 n M0:=by
 obtain⟨E,e1,e2,e3,e4⟩:=h
 have key:∀y r,Sol n M y r<->∀i,i<n->y i=r i:=by
  intro y r
  have hs:∀i,i<n->Ao n (fun j=>M i j*y j)=y i:=by
   intro i hi;rw[C9 (k:=i) _ hi (fun j hj h=>by rw[hu i j hi hj,zC (fun e=>h e.symm)];grind),hu i i hi hi,if_pos rfl,Rat.one_mul]
  exact⟨fun h i hi=>(hs i hi).symm.trans (h i hi),fun h i hi=>(hs i hi).trans (h i hi)⟩
 refine⟨fun y=>?_,?_,?_⟩
 .rw[e2,key];exact⟨fun h i hi=>(h i hi).trans (e4 i hi),fun h i hi=>(h i hi).trans (e4 i hi).symm⟩
 .intro y h i hi;have:=(key _ _).1 ((e2 _ _).1 h) i hi;rw[this,e3 i hi]
 intro r;exact⟨E r,(e2 _ _).2 ((key _ _).2 fun _ _=>rfl)⟩
theorem PN{n k p:Nat}{M:Mx}(h:Unit n k M)(hk:k<n)(hp:p<n)(a:k<=p):Unit n k (AU k p M):=by
 intro i j hi hj;unfold AU
 by_cases e1:i=k
 .simp only[zE e1];rw[h p j hp hj,zC (by omega),zC (by omega)]
 by_cases e2:i=p
 .simp only[zC e1,zE e2];rw[h k j hk hj,zC (by omega),zC (by omega)]
 simp only[zC e1,zC e2];exact h i j hi hj
theorem Sa{n k:Nat}{M:Mx}(h:Unit n k M):Unit n k (Bc k M):=by
 intro i j hi hj;unfold Bc;rw[zC (by omega)];exact h i j hi hj
theorem Sb{n k i0:Nat}{M:Mx}(h:Unit n k M):Unit n k (CE k i0 M):=by
 intro i j hi hj;unfold CE;rw[zC (by omega)];exact h i j hi hj
def Dd(n k:Nat)(M:Mx):Nat->Option Nat
 |0=>none
 |f+1=>if M (n-(f+1)) k=0 then Dd n k M f else some (n-(f+1))
theorem FP{n k p:Nat}{M:Mx}:∀{f:Nat},f<=n->Dd n k M f=some p->n-f<=p/\p<n/\M p k≠0/\∀i,n-f<=i->i<p->M i k=0:=by
 intro f
 induction f with
 |zero=>intro _ h;cases h
 |succ f ih=>
  intro hf h;unfold Dd at h
  by_cases h0:M (n-(f+1)) k=0
  .rw[zE h0]at h;obtain⟨a,b,c,d⟩:=ih (by omega) h;refine⟨by omega,b,c,fun i h1 h2=>?_⟩
   by_cases e:i=n-(f+1)
   .rw[e];exact h0
   exact d i (by omega) h2
  rw[zC h0]at h
  cases h
  exact⟨by omega,by omega,h0,fun i h1 h2=>absurd h1 (by omega)⟩
theorem MW{n k:Nat}{M:Mx}:∀{f:Nat},f<=n->Dd n k M f=none->∀i,n-f<=i->i<n->M i k=0:=by
 intro f
 induction f with
 |zero=>intro _ _ i h1 h2;omega
 |succ f ih=>
  intro hf h i h1 h2;unfold Dd at h
  by_cases h0:M (n-(f+1)) k=0
  .rw[zE h0]at h
   by_cases e:i=n-(f+1)
   .rw[e];exact h0
   exact ih (by omega) h i (by omega) h2
  rw[zC h0]at h;cases h
theorem FQ{n k p:Nat}{M:Mx}:∀{f:Nat},f<=n->n-f<=p->p<n->M p k≠0->(∀i,n-f<=i->i<p->M i k=0)->Dd n k M f=some p:=by
 intro f
 induction f with
 |zero=>intro _ h1 h2;omega
 |succ f ih=>
  intro hf h1 h2 h3 h4;unfold Dd
  by_cases e:p=n-(f+1)
  .subst e;rw[zC h3]
  rw[zE (h4 _ (zB _) (by omega))];exact ih (by omega) (by omega) h2 h3 fun i a b=>h4 i (by omega) b
theorem Ll{n k:Nat}{M:Mx}:∀{f:Nat},f<=n->(∀i,n-f<=i->i<n->M i k=0)->Dd n k M f=none:=by
 intro f
 induction f with
 |zero=>intros;rfl
 |succ f ih=>
  intro hf h;unfold Dd;rw[zE (h _ (zB _) (by omega))];exact ih (by omega) fun i a b=>h i (by omega) b
variable (S:Rat->Bool)
def Eg(n k:Nat)(M:Mx):Bool:=(List.range (n+1)).all fun j=>decide (j<k)||(S (M k j)&&S (M k k))
def Eh(n k i:Nat)(M:Mx):Bool:=(List.range (n+1)).all fun j=>decide (j<k)||(S (M i k)&&S (M k j)&&S (M i j)&&S (M i k*M k j))
def Bp(n k i:Nat)(M:Mx):Option Mx:=if i=k\/M i k=0 then some M else if Eh S n k i M=true then some (CE k i M) else none
def AB(n k:Nat):Nat->Mx->Option Mx
 |0,M=>some M
 |i+1,M=>(AB n k i M).bind (Bp S n k i)
def Cb(n k:Nat)(M:Mx):Except Int Mx :=
 match Dd n k M (n-k) with
 |none=>.error 12
 |some p=>if Eg S n k (AU k p M)=true then (match AB S n k n (Bc k (AU k p M)) with|some M'=>.ok M' | none=>.error 2) else .error 2
def Ax(n:Nat):Nat->Mx->Except Int Mx
 |0,M=>.ok M
 |k+1,M=>(Ax n k M).bind (Cb S n k)
theorem CV{n k:Nat}{M:Mx}:Eg S n k M=true<->∀j,k<=j->j<=n->S (M k j)=true/\S (M k k)=true:=by
 unfold Eg;simp only[xe,List.mem_range,Bool.or_eq_true,yN,yI];constructor
 .intro h j h1 h2
  rcases h j (by omega) with h3|h3
  .omega
  exact h3
 intro h j h1
 rcases xQ j k with h2|h2
 .exact .inl h2
 exact .inr (h j h2 (by omega))
theorem Dy{n k i:Nat}{M:Mx}:Eh S n k i M=true<->∀j,k<=j->j<=n->S (M i k)=true/\S (M k j)=true/\S (M i j)=true/\S (M i k*M k j)=true:=by
 unfold Eh;simp only[xe,List.mem_range,Bool.or_eq_true,yN,yI];constructor
 .intro h j h1 h2
  rcases h j (by omega) with h3|h3
  .omega
  exact⟨h3.1.1.1,h3.1.1.2,h3.1.2,h3.2⟩
 intro h j h1
 rcases xQ j k with h2|h2
 .exact .inl h2
 have h3:=h j h2 (by omega);exact .inr ⟨⟨⟨h3.1,h3.2.1⟩,h3.2.2.1⟩,h3.2.2.2⟩
variable {S:Rat->Bool}
theorem MX{n k:Nat}{M:Mx}(hk:k<n)(hu:Unit n k M)(h1:M k k=1):∀{i:Nat} {M':Mx},i<=n->AB S n k i M=some M'->Rel n M M'/\Unit n k M'/\(∀j,M' k j=M k j)/\(∀i',i'<i->i'≠k->M' i' k=0):=by
 intro i
 induction i with
 |zero=>
  intro M' _ h
  cases h
  exact⟨Rel.refl _ _,hu,fun _=>rfl,fun i' h=>absurd h (by omega)⟩
 |succ i ih=>
  intro M' hi h;unfold AB at h
  cases he:AB S n k i M with
  |none=>rw[he]at h;cases h
  |some M2=>
   rw[he]at h;obtain⟨r,u,d,hz⟩:=ih (by omega) he;have h':Bp S n k i M2=some M':=h;unfold Bp at h'
   by_cases c1:i=k\/M2 i k=0
   .rw [zE c1]at h'
    cases h'
    refine⟨r,u,d,fun i' a b=>?_⟩
    by_cases e:i'=i
    .subst e
     rcases c1 with c|c
     .exact absurd c b
     exact c
    exact hz i' (by omega) b
   rw[zC c1]at h'
   by_cases c2:Eh S n k i M2=true
   .rw [zE c2]at h'
    cases h'
    have s:i≠k:=fun e=>c1 (.inl e);refine⟨r.trans (Uf M2 hk (by omega) s (u.zeros hk (zB _))),Sb u,fun j=>?_,fun i' a b=>?_⟩
    .unfold CE;rw[zC fun h=>s h.1.symm];exact d j
    by_cases e:i'=i
    .subst e;unfold CE;rw[zE ⟨rfl,zB _⟩,d,h1];grind
    unfold CE;rw[zC fun h=>e h.1];exact hz i' (by omega) b
   rw[zC c2]at h';cases h'
theorem PO{n k:Nat}{M M':Mx}(hk:k<n)(hu:Unit n k M)(h:Cb S n k M=.ok M'):Rel n M M'/\Unit n (k+1) M':=by
 unfold Cb at h
 cases hp:Dd n k M (n-k) with
 |none=>rw[hp]at h;cases h
 |some p=>
  rw[hp]at h;obtain⟨a,b,c,_⟩:=FP (by omega) hp;have u1:=PN hu hk b (by omega:k<=p);have c1:AU k p M k k≠0:=by unfold AU;rw[zE rfl];exact c
  have r1:=(RW M hk b).trans (Ue _ hk c1 (u1.zeros hk (zB _)));have u2:=Sa u1
  have d1:Bc k (AU k p M) k k=1:=by
   unfold Bc;rw[zE ⟨rfl,zB _⟩,xu,yy _ c1]
  dsimp only at h
  split at h
  .cases he:AB S n k n (Bc k (AU k p M)) with
   |none=>rw[he]at h;cases h
   |some M2=>
    rw[he]at h
    cases h
    obtain⟨r,u,d,hz⟩:=MX hk u2 d1 (zB n) he;refine⟨r1.trans r,fun i j hi hj=>?_⟩
    by_cases e:j=k
    .subst e
     by_cases e2:i=j
     .rw[zE e2,e2,d,d1]
     rw[zC e2];exact hz i hi e2
    exact u i j hi (by omega)
  cases h
theorem GW{n:Nat}{M:Mx}:∀{k:Nat} {M':Mx},k<=n->Ax S n k M=.ok M'->Rel n M M'/\Unit n k M':=by
 intro k
 induction k with
 |zero=>
  intro M' _ h
  cases h
  exact⟨Rel.refl _ _,fun i j _ hj=>absurd hj (by omega)⟩
 |succ k ih=>
  intro M' hk h;unfold Ax at h
  cases hs:Ax S n k M with
  |error e=>rw[hs]at h;cases h
  |ok M2=>
   rw[hs]at h;obtain⟨r,u⟩:=ih (by omega) hs;obtain⟨r2,u2⟩:=PO (by omega) u h;exact⟨r.trans r2,u2⟩
theorem PP{n k:Nat}{M:Mx}{e:Int}(h:Cb S n k M=.error e):(e=12/\Dd n k M (n-k)=none)\/e=2:=by
 unfold Cb at h
 cases hp:Dd n k M (n-k) with
 |none=>rw[hp]at h;cases h;exact .inl ⟨rfl,rfl⟩
 |some p=>
  rw[hp]at h;dsimp only at h
  split at h
  .split at h
   .cases h
   cases h;exact .inr rfl
  cases h;exact .inr rfl
theorem MY{n:Nat}{M:Mx}:(∃M',Ax S n n M=.ok M'/\(∀y,Sol n M y (fun i=>M i n)<->∀i,i<n->y i=M' i n)/\PM n M/\V0 n M)\/(Ax S n n M=.error 12/\¬PM n M)\/Ax S n n M=.error 2:=by
 have key:∀k,k<=n->∀e,Ax S n k M=.error e->(e=12/\¬PM n M)\/e=2:=by
  intro k
  induction k with
  |zero=>intro _ e h;cases h
  |succ k ih=>
   intro hk e h;unfold Ax at h
   cases hs:Ax S n k M with
   |error e' =>
    rw[hs]at h;have:e'=e:=by cases h;rfl
    subst this;exact ih (by omega) e' hs
   |ok M2=>
    rw[hs]at h;obtain⟨r,u⟩:=GW (by omega) hs
    rcases PP h with⟨h1,h2⟩|h1
    .refine .inl ⟨h1,RY r u (by omega) fun i a b=>?_⟩;exact MW (by omega) h2 i (by omega) b
    .exact .inr h1
 cases hs:Ax S n n M with
 |ok M' =>
  obtain⟨r,u⟩:=GW (zB n) hs;exact .inl ⟨M',rfl,RZ r u⟩
 |error e=>
  rcases key n (zB n) e hs with⟨h1,h2⟩|h1
  .exact .inr (.inl ⟨by rw[h1],h2⟩)
  exact .inr (.inr (by rw[h1]))
section laws
variable {S:Rat->Bool} {n:Nat}
theorem V3{M M':Mx}(h:Ax S n n M=.ok M'):(∀y,Sol n M y (fun i=>M i n)<->∀i,i<n->y i=M' i n)/\PM n M/\V0 n M:=by
 rcases MY (S:=S) (n:=n) (M:=M) with⟨M2,h1,h2⟩|⟨h1,_⟩|h1
 .rw[h]at h1;cases h1;exact h2
 .rw[h]at h1;cases h1
 rw[h]at h1;cases h1
end laws
end Nt
end
section
open Go.RowKit Go.Shelf
namespace Nt
abbrev Raw:=Bool×ByteArray×ByteArray
def CI(x:Raw):List Value:=[.bool x.1,.string x.2.1,.string x.2.2]
def rq(q:Rat):Raw:=(decide (q.num<0),T (some q.num.natAbs),T (some q.den))
def AN(m:Nat)(r:Nat->Raw):List Value:=(List.range m).flatMap fun j=>CI (r j)
theorem AH(m:Nat)(r:Nat->Raw):(AN m r).length=m*3:=by
 unfold AN
 induction m with
 |zero=>rfl
 |succ m ih=>rw[xX,List.flatMap_append,zY,ih];simp[CI];omega
theorem Br(m:Nat)(r:Nat->Raw):AN (m+1) r=AN m r++CI (r m):=by
 unfold AN;rw[xX,List.flatMap_append];simp
theorem Ch{m j:Nat}(r:Nat->Raw)(hj:j<m)(c:Nat)(hc:c<3):(AN m r)[j*3+c]? = (CI (r j))[c]?:=by
 induction m with
 |zero=>omega
 |succ m ih=>
  rw[Br]
  by_cases e:j=m
  .subst e;rw[List.getElem?_append_right (by rw[AH];omega),AH]
   congr 1
   omega
  rw[List.getElem?_append_left (by rw[AH];omega)];exact ih (by omega)
theorem D9{m:Nat}{r s:Nat->Raw}(h:∀j,j<m->r j=s j):AN m r=AN m s:=by
 induction m with
 |zero=>rfl
 |succ m ih=>rw[Br,Br,ih fun j hj=>h j (by omega),h m (by omega)]
theorem Lm{m j:Nat}(r:Nat->Raw)(hj:j<m)(x:Raw):
 (((AN m r).set (j*3) (.bool x.1)).set (j*3+1) (.string x.2.1)).set (j*3+2) (.string x.2.2)=AN m (fun i=>if i=j then x else r i):=by
 induction m with
 |zero=>omega
 |succ m ih=>
  rw[Br,Br]
  by_cases e:j=m
  .subst e;have hl:=AH j r;rw[wX _ _ (by omega),wX _ _ (by omega),wX _ _ (by omega)];rw[hl,show j*3-j*3=0 by omega,show j*3+1-j*3=1 by omega,show j*3+2-j*3=2 by omega,zE rfl];rw[D9 (m:=j) (r:=r) (s:=fun i=>if i=j then x else r i) fun i hi=>(zC (by omega)).symm];rfl
  have hl:=AH m r;rw[List.set_append_left _ _ (by omega),List.set_append_left _ _ (by rw[List.length_set];omega),List.set_append_left _ _ (by rw[List.length_set,List.length_set];omega),ih (by omega),zC (fun h=>e h.symm)]
def RowB(W:World)(b m:Nat)(r:Nat->Raw):Prop:=W.heap[b]? = some (.cells (AN m r).toArray 34 (0,0))
section
variable {W W':World} {b m:Nat} {r:Nat->Raw}
theorem RowB.lt(h:RowB W b m r):b<W.heap.size:=(Array.getElem?_eq_some_iff.1 h).1
theorem RowB.cell(h:RowB W b m r){j:Nat}(hj:j<m):
 W.cell? ⟨b,j*3,none⟩=some (.bool (r j).1)/\W.cell? ⟨b,j*3+1,none⟩=some (.string (r j).2.1)/\W.cell? ⟨b,j*3+2,none⟩=some (.string (r j).2.2):=by
 have hc:∀c,W.cell? ⟨b,c,none⟩=(AN m r)[c]?:=fun c=>by unfold RowB at h;simp[World.cell?,h]
 rw[hc,hc,hc];have h0:=Ch r hj 0 (by omega);have h1:=Ch r hj 1 (by omega);have h2:=Ch r hj 2 (by omega);exact⟨h0,h1,h2⟩
theorem RowB.frozen(h:RowB W b m r)(o:Nat):W.frozen? ⟨b,o,none⟩=false:=by
 unfold RowB at h;simp[World.frozen?,h]
theorem RowB.congr(h:RowB W b m r){s:Nat->Raw}(e:∀j,j<m->r j=s j):RowB W b m s:=by
 unfold RowB at h ⊢;rw[h,D9 e]
theorem RowB.alloc(h:RowB W b m r)(o:Obj):RowB (W.alloc o) b m r:=(yZ W o b h.lt).trans h
theorem RowB.drew(h:RowB W b m r):RowB W.drew b m r:=h
theorem RowB.far(h:RowB W b m r){p:Addr}(hp:b≠p.block)(v:Value):RowB (W.setCell p v) b m r:=(zg _ _ _ _ hp).trans h
theorem RowB.below{B:Nat}(h:RowB W b m r)(hb:Below B W W')(hl:b<B):RowB W' b m r:=(hb.block b hl).trans h
theorem RowB.grown{row:Option Nat}(h:RowB W b m r)(hg:W.grownBy W' row)(hn:some b≠row):RowB W' b m r:=(hg.block b h.lt hn).trans h
theorem RowB.set(h:RowB W b m r){j:Nat}(hj:j<m)(x:Raw):
 RowB (((W.setCell ⟨b,j*3,none⟩ (.bool x.1)).setCell ⟨b,j*3+1,none⟩ (.string x.2.1)).setCell ⟨b,j*3+2,none⟩ (.string x.2.2)) b m (fun i=>if i=j then x else r i):=by
 have hs:=Lm r hj x;have hl:=AH m r;unfold RowB at h ⊢;rw[<-hs]
 have h1:∀(V:World)(l:List Value)(o:Nat)(v:Value),V.heap[b]? = some (.cells l.toArray 34 (0,0))->(V.setCell ⟨b,o,none⟩ v).heap[b]? = some (.cells (l.set o v).toArray 34 (0,0)):=by
  intro V l o v hv;simp[World.setCell,Array.getElem?_modify,hv]
 exact h1 _ _ _ _ (h1 _ _ _ _ (h1 _ _ _ _ h))
end
theorem infoQ:(prog.info? 34).map (fun i=>(i.zero,i.size,i.bytes))=some (some (.agg #[.bool false,.string ⟨#[]⟩,.string ⟨#[]⟩]),3,40):=by kernel_rfl
def zraw:Raw:=(false,⟨#[]⟩,⟨#[]⟩)
theorem Sc(m:Nat):madeCells (.agg #[.bool false,.string ⟨#[]⟩,.string ⟨#[]⟩]:Value).cells (m*3)=(AN m fun _=>zraw).toArray:=by
 have e:(.agg #[.bool false,.string ⟨#[]⟩,.string ⟨#[]⟩]:Value).cells=#[.bool false,.string ⟨#[]⟩,.string ⟨#[]⟩]:=by simp[Value.cells]
 rw[e];apply Array.ext
 .rw[size_madeCells];simp[AH]
 intro i h1 h2;rw[size_madeCells]at h1;have h3:=Ch (m:=m) (j:=i/3) (fun _=>zraw) (by omega) (i%3) (by omega);rw[show i/3*3+i%3=i by omega]at h3;have h4:(AN m fun _=>zraw)[i]? = some ((AN m fun _=>zraw)[i]'(by simpa using h2)):=yR _;rw[h4]at h3
 have h5:(madeCells #[(.bool false:Value),.string ⟨#[]⟩,.string ⟨#[]⟩] (m*3))[i]'(by rw[size_madeCells];exact h1)=(#[(.bool false:Value),.string ⟨#[]⟩,.string ⟨#[]⟩]:Array Value)[i%3]!:=by
  simp[madeCells]
 rw[h5,List.getElem_toArray];have h6:i%3=0\/i%3=1\/i%3=2:=by omega
 rcases h6 with h6|h6|h6<;>rw[h6]at h3 ⊢<;>simp[CI,zraw]at h3 ⊢<;>exact h3.symm
theorem DA(t:TypeId)(ht:prog.underlying t=some (.slice 34))(m:Nat)(hm:m<=1000)(w:World):
 (Instr.makeSlice t (.int .i64 (m:Int)) (.int .i64 (m:Int))).run prog w=.ok (.slice (some ⟨w.heap.size,0,none⟩) m m) (w.alloc (.cells (AN m fun _=>zraw).toArray 34)):=by
 obtain⟨i,hi,a⟩:=Option.map_eq_some_iff.1 infoQ;simp only[Prod.mk.injEq]at a;obtain⟨hz,hs,hb⟩:=a;have hr:=run_make (P:=prog) w t 34 i _ ht hi hz .i64 .i64 m m (by omega) (Int.le_refl _) (by rw[hb];omega) (by omega);simp only[Int.toNat_natCast,hs]at hr;rw[Sc]at hr;exact hr
theorem MZ(w:World)(dT sT ty:TypeId)(g dLen dCap:Nat)(a:Addr)(n sCap:Nat)(cur cs:List Value)
 (hu:prog.underlying dT=some (.slice 34))(hg:w.heap[g]? = some (.cells cur.toArray 34 (0,0)))(hn:cs.length=n*3)(ab:n<=dLen)
 (s:∀j v,cs[j]? = some v->w.cell? (a.add j)=some v)(d:cs.length<=cur.length)(h1:∀v∈cs,v.oneCell'=true):
 (Builtin.copy_ #[dT,sT] ty #[.slice (some ⟨g,0,none⟩) dLen dCap,.slice (some a) n sCap]).run prog w=.ok (goInt n) (w.setRow g (cs++cur.drop cs.length).toArray):=by
 have hl:=run_loadCells_list (P:=prog) w a cs s;have ad:=run_storeCells_at prog g 0 34 cs 0 cur.toArray w hg (by simpa using d) h1;obtain⟨i,hi,aa⟩:=Option.map_eq_some_iff.1 infoQ;simp only[Prod.mk.injEq]at aa;obtain⟨hz,hs,hb⟩:=aa;have h:Nat.min n dLen=n:=Nat.min_eq_left ab;simp[Builtin.copy_,run_underlying hu,Builtin.lenOf,Builtin.firstCells,sizeOf,typeInfo,hi,hs,h,<-hn,hl,ad]
def InRow(W:World)(A:Option Addr)(l:List Raw):Prop :=
 0<l.length->∃b off,A=some ⟨b,off,none⟩/\b<W.heap.size/\∀j (h:j<l.length),W.cell? ⟨b,off+j*3,none⟩=some (.bool l[j].1)/\W.cell? ⟨b,off+j*3+1,none⟩=some (.string l[j].2.1)/\W.cell? ⟨b,off+j*3+2,none⟩=some (.string l[j].2.2)
theorem InRow.below{W W':World}{B:Nat}{A:Option Addr}{l:List Raw}(h:InRow W A l)(hb:Below B W W')(hB:W.heap.size<=B):InRow W' A l:=fun h0=>by
 obtain⟨b,off,e,hl,hc⟩:=h h0;refine⟨b,off,e,zL hl hb.size,fun j hj=>?_⟩;obtain⟨c1,c2,c3⟩:=hc j hj;exact⟨(hb.cell (p:=⟨b,off+j*3,none⟩) (by show b<B;omega)).trans c1,(hb.cell (p:=⟨b,off+j*3+1,none⟩) (by show b<B;omega)).trans c2,(hb.cell (p:=⟨b,off+j*3+2,none⟩) (by show b<B;omega)).trans c3⟩
abbrev RowH:=Option Addr×Nat×List Raw
def InMat(W:World)(A:Option Addr)(l:List RowH):Prop :=
 0<l.length->∃b off,A=some ⟨b,off,none⟩/\b<W.heap.size/\∀i (h:i<l.length),W.cell? ⟨b,off+i,none⟩=some (.slice l[i].1 l[i].2.2.length l[i].2.1)/\InRow W l[i].1 l[i].2.2
theorem InMat.below{W W':World}{B:Nat}{A:Option Addr}{l:List RowH}(h:InMat W A l)(hb:Below B W W')(hB:W.heap.size<=B):InMat W' A l:=fun h0=>by
 obtain⟨b,off,e,hl,hc⟩:=h h0;refine⟨b,off,e,zL hl hb.size,fun i hi=>?_⟩;obtain⟨c1,c2⟩:=hc i hi;exact⟨(hb.cell (p:=⟨b,off+i,none⟩) (by show b<B;omega)).trans c1,c2.below hb hB⟩
def EnvB(B:Nat)(w:World):Prop:=∀w',Below B w w'->Env w'
theorem EnvB.of{w:World}(h:Env w):EnvB w.heap.size w:=fun _ hb=>h.below hb
theorem EnvB.env{B:Nat}{w:World}(h:EnvB B w):Env w:=h w (zI B w)
theorem EnvB.below{B:Nat}{w w':World}(h:EnvB B w)(hb:Below B w w'):EnvB B w':=fun _ h2=>h _ (hb.trans h2)
end Nt
end
section
open Go.RowKit Go.Shelf
namespace Nt
def Cr(x:Raw):Bool:=As x.1 x.2.1 x.2.2
def Ei(x:Raw):Prop:=x.2.1.size<=140737488355328/\x.2.2.size<=140737488355328
def allV(l:List Raw):Bool:=l.all Cr
theorem Na(x:Raw)(w:World)(hE:Env w)(hz:Ei x):
 Calls prog 138 #[.agg #[.bool x.1,.string x.2.1,.string x.2.2]] w fun e w'=>e=.returned (.bool (!Cr x))/\Below w.heap.size w w':=by
 obtain⟨g,n,d⟩:=x;have hv:=fun W (h:Env W)=>Bh g n d W h hz.1 hz.2;have e:Cr (g,n,d)=As g n d:=rfl;rw[e];dsimp only;clear e;generalize As g n d=v at *;replace hE:=zh hE;replace hv:=zh hv;clear hz;go_enter func138,ntmps138
 go_wp2_with fail
 refine(hv.o _ (hE.o.below (Ba w g n d))).q fun w1 hb=>?_;have hB:=zh ((Ba w g n d).trans (hb.mono (by simp)));clear hb;go_wp2;go_ret;exact⟨rfl,hB.o⟩
theorem Ii(w:World):
 Calls prog 91 #[] w fun e w'=>e=.returned (.agg #[.bool false,.string ⟨#[48]⟩,.string ⟨#[49]⟩])/\Below w.heap.size w w':=by
 go_enter func91,ntmps91;go_wp2;refine zX (v:=.agg #[.bool false,.string ⟨#[48]⟩,.string ⟨#[49]⟩]) (by simp[results,results91,go_sem]) rfl ⟨rfl,?_⟩
 repeat refine ze ?_ (by simp only[];omega) _
 exact Ba _ _ _ _
def Kc(l:List Raw):Int:=if allV l then -1 else (l.findIdx fun x=>!Cr x:Nat)
theorem Ug{l:List Raw}{k:Nat}(hk:k<l.length)(a:∀j (h:j<l.length),j<k->Cr l[j]=true)(hb:Cr l[k]=false):Kc l=k:=by
 unfold Kc allV
 have h1:l.all Cr=false:=by
  rw[wK];exact⟨l[k],zQ hk,by rw[hb];simp⟩
 rw[h1,zC (by simp)]
 congr 1
 rw[List.findIdx_eq hk];exact⟨by rw[hb];rfl,fun j hj=>by rw[a j (by omega) hj];rfl⟩
theorem Sd{l:List Raw}(a:∀j (h:j<l.length),j<l.length->Cr l[j]=true):Kc l=-1:=by
 unfold Kc allV;rw[zE];rw[xe];intro x hx;obtain⟨j,hj,rfl⟩:=zl hx;exact a j hj hj
theorem Uh(l:List Raw):decide (0<=Kc l)=!allV l:=by
 unfold Kc
 cases allV l
 .rw[zC (by simp)];simp
 rw[zE rfl];rfl
theorem Se(A:Option Addr)(cap:Nat)(l:List Raw)(w:World)(hE:Env w)(hr:InRow w A l)(hl:l.length<=140737488355328)(hz:∀x∈l,Ei x):
 Calls prog 163 #[.slice A l.length cap,.func (.func 138) #[] #[]] w
  fun e w'=>e=.returned (.int .i64 (Kc l))/\Below w.heap.size w w':=by
 have HF:=zh (fun(k:Nat) (hk:k<l.length) h1 h2=>Ug (l:=l) hk h1 h2);have HA:=zh (Sd (l:=l));generalize Kc l=res at *;replace hE:=zh hE;replace hr:=zh hr;replace hz:=zh hz;go_enter func163,ntmps163;go_wp2
 go_loopw [8] (fun i wr=>∃k:Nat,k<=l.length/\i=.int .i64 (k:Int)/\Hid (∀j (h:j<l.length),j<k->Cr l[j]=true)/\Hid (Below w.heap.size w wr)) (fun i _=>l.length-(intOf i).toNat)
 case atStart=>exact⟨0,zO _,rfl,fun j _ h=>absurd h (by omega),zI _ _⟩
 case round=>
  obtain⟨k,hk,rfl,s,hB⟩:=hrel
  by_cases hlt:k<l.length
  .obtain ⟨b,off,rfl,hb,hc⟩:=(hr.o.below hB.o (zB _)) (by omega);obtain⟨c1,c2,c3⟩:=hc k hlt;clear hc;have hx:=hz.o l[k] (zQ hlt);have kv:=fun W (h:Env W)=>Na l[k] W h hx;have HK:=zh (HF.o k hlt s.o)
   have HL:Hid (Cr l[k]=true->∀j (h:j<l.length),j<k+1->Cr l[j]=true):=fun hv j h hj=>by
    by_cases e:j=k
    .subst e;exact hv
    exact s.o j h (by omega)
   generalize l[k]=x at *;obtain⟨g,n,d⟩:=x;dsimp only at c1 c2 c3 kv;replace kv:=zh kv;clear hx
   cases hv:Cr (g,n,d) with
   |true=>
    have HL2:=zh (HL.o hv);rw[hv]at kv;clear HL HK hv
    go_wp2_with fail
    refine(kv.o _ (hE.o.below hB.o)).q fun w1 a=>?_;have aa:=hB.t a;clear a;go_wp2
    go_roundw
    case rel=>exact⟨k+1,by omega,by go_num,HL2,aa⟩
    case measure=>simp[intOf];omega
   |false=>
    have HK2:=zh (HK.o hv);rw[hv]at kv;clear HL HK hv
    go_wp2_with fail
    refine(kv.o _ (hE.o.below hB.o)).q fun w1 a=>?_;have aa:=hB.t a;clear a;go_wp2;go_ret;exact⟨by rw[HK2.o];rfl,aa.o⟩
  obtain rfl:k=l.length:=by omega
  have HE:=zh (HA.o s.o);go_wp2;go_ret;exact⟨by rw[HE.o];rfl,hB.o⟩
theorem PQ(A:Option Addr)(cap:Nat)(l:List Raw)(w:World)(hE:Env w)(hr:InRow w A l)(hl:l.length<=140737488355328)(hz:∀x∈l,Ei x):
 Calls prog 137 #[.slice A l.length cap,.func (.func 138) #[] #[]] w
  fun e w'=>e=.returned (.bool (!allV l))/\Below w.heap.size w w':=by
 have hi:=Se A cap l w hE hr hl hz;have hg:=Uh l;generalize Kc l=i at *;generalize (!allV l)=v at *;go_enter func137,ntmps137
 go_wp2_with fail
 refine hi.q fun w1 hb=>?_;replace hb:=zh hb;go_wp2;go_ret;exact⟨rfl,hb.o⟩
theorem DB(A:Option Addr)(cap:Nat)(l:List Raw)(w:World)(hE:Env w)(hr:InRow w A l)(hl:l.length<=140737488355328)(hz:∀x∈l,Ei x):
 Calls prog 86 #[.slice A l.length cap] w fun e w'=>e=.returned (.bool (allV l))/\Below w.heap.size w w':=by
 have hi:=PQ A cap l w hE hr hl hz;generalize allV l=v at *;go_enter func86,ntmps86
 go_wp2_with fail
 refine hi.q fun w1 hb=>?_;replace hb:=zh hb;go_wp2;go_ret;exact⟨by first|rfl|simp,hb.o⟩
theorem AA{w w1 w2:World}{row:Option Nat}(h:w.grownBy w1 row)(hb:Below w1.heap.size w1 w2):w.grownBy w2 row :=
 ⟨hb.os.trans h.os,hb.tape.trans h.tape,hb.output.trans h.output,zV h.size hb.size,fun k hk a=>(hb.block k (zL hk h.size)).trans (h.block k hk a)⟩
theorem AO{w w1:World}{b:Nat}(h:w.grownBy w1 (some b))(o:Nat)(v:Value):w.grownBy (w1.setCell ⟨b,o,none⟩ v) (some b) :=
 ⟨h.os,h.tape,h.output,by simpa using h.size,fun k hk a=>(zg w1 ⟨b,o,none⟩ v k (fun e=>a (congrArg some e))).trans (h.block k hk a)⟩
theorem E7(w:World)(row:Option Nat):w.grownBy w row:=⟨rfl,rfl,rfl,zB _,fun _ _ _=>rfl⟩
theorem By{B:Nat}{w w1:World}{b:Nat}(h:w.grownBy w1 (some b))(hb:B<=b)(hB:B<=w.heap.size):Below B w w1 :=
 ⟨h.os,h.tape,h.output,by have:=h.size;omega,fun k hk=>h.block k (by omega) (by intro e;cases e;omega)⟩
theorem B3.grown{W W':World}{b c:Nat}{g:Bool}{n d:ByteArray}(h:B3 W c g n d)(hg:W.grownBy W' (some b))(a:c≠b):B3 W' c g n d :=
 (hg.block c h.lt (fun e=>a (Option.some.inj e))).trans h
theorem Sf(j:Int)(g1 g2:Bool)(n1 d1 n2 d2:ByteArray)(r:Bool)(n d:ByteArray)(E:Int)(pb:Nat)(w:World)(hE:Env w)(hp:B3 w pb g2 n2 d2)
 (kd:∀W,Env W->Calls prog 94 #[.agg #[.bool g1,.string n1,.string d1],.agg #[.bool g2,.string n2,.string d2]] W fun e w'=>e=.returned (.tuple #[.agg #[.bool r,.string n,.string d],.int .i64 E])/\Below W.heap.size W w'):
 Calls prog 93 #[.int .i64 j,.agg #[.bool g1,.string n1,.string d1],.pointer (some ⟨pb,0,none⟩)] w fun e w'=>e=.returned (.tuple #[.agg #[.bool r,.string n,.string d],.int .i64 E])/\Below w.heap.size w w':=by
 have q0:=zh ((B3.new w g1 n1 d1).alloc (.cells #[.bool false,.string ⟨#[]⟩,.string ⟨#[]⟩] 34))
 have r0:Hid (B3 ((w.alloc (.cells #[.bool g1,.string n1,.string d1] 34)).alloc (.cells #[.bool false,.string ⟨#[]⟩,.string ⟨#[]⟩] 34)) (w.heap.size+1) false ⟨#[]⟩ ⟨#[]⟩):=by
  have h:=B3.new (w.alloc (.cells #[.bool g1,.string n1,.string d1] 34)) false ⟨#[]⟩ ⟨#[]⟩
  rwa [show (w.alloc (.cells #[.bool g1,.string n1,.string d1] 34)).heap.size=w.heap.size+1 by simp]at h
 have p0:=zh ((hp.alloc (.cells #[.bool g1,.string n1,.string d1] 34)).alloc (.cells #[.bool false,.string ⟨#[]⟩,.string ⟨#[]⟩] 34));have a:Hid (Below w.heap.size w ((w.alloc (.cells #[.bool g1,.string n1,.string d1] 34)).alloc (.cells #[.bool false,.string ⟨#[]⟩,.string ⟨#[]⟩] 34))):=((zI _ w).alloc (zB _) _).alloc (by simp) _;obtain⟨p1,p2,p3,p4,p5,p6⟩:=hp.facts;have p7:=hp.lt;replace hE:=zh hE;replace kd:=zh kd;clear hp;go_enter func93,ntmps93
 go_wp2_with fail
 refine(kd.o _ (hE.o.below a.o)).q fun w1 hb=>?_;have r1:=zh (r0.o.below hb);have s:=a.t hb;clear hb p1 p2 p3 p4 p5 p6 p7;obtain⟨c1,c2,c3,c4,c5,c6⟩:=r1.o.facts;have c7:=r1.o.lt;go_wp2;refine zX (v:=.tuple #[.agg #[.bool r,.string n,.string d],.int .i64 E]) (by simp[results,results93,go_sem,c1,c2,c3]) rfl ⟨rfl,?_⟩
 repeat refine ze ?_ (by simp only[];omega) _
 exact s.o
theorem OF(j:Int)(q p:Rat)(hq:ShortQ q)(hp:ShortQ p)(h0:p≠0)(pb:Nat)(w:World)(hE:Env w)(hb:B3 w pb (rq p).1 (rq p).2.1 (rq p).2.2):
 Calls prog 93 #[.int .i64 j,qv q,.pointer (some ⟨pb,0,none⟩)] w fun e w'=>e=.returned (.tuple #[qv (q/p),.int .i64 0])/\Below w.heap.size w w' :=
 Sf j _ _ _ _ _ _ _ _ _ _ pb w hE hb fun W hW=>PH q p hq hp h0 W hW
theorem Ui(j:Int)(q p:Rat)(hq:OkQ q)(hp:OkQ p)(h0:p≠0)(hl:¬(ShortQ q/\ShortQ p))(pb:Nat)(w:World)(hE:Env w)(hb:B3 w pb (rq p).1 (rq p).2.1 (rq p).2.2):
 Calls prog 93 #[.int .i64 j,qv q,.pointer (some ⟨pb,0,none⟩)] w fun e w'=>e=.returned (.tuple #[zv,.int .i64 2])/\Below w.heap.size w w' :=
 Sf j _ _ _ _ _ _ _ _ _ _ pb w hE hb fun W hW=>RJ q p hq hp h0 hl W hW
def Blk1(W:World)(b:Nat)(v:Value):Prop:=W.heap[b]? = some (.cells #[v] 27 (0,0))
theorem Blk1.lt{W:World}{b:Nat}{v:Value}(h:Blk1 W b v):b<W.heap.size:=(Array.getElem?_eq_some_iff.1 h).1
theorem Blk1.cell{W:World}{b:Nat}{v:Value}(h:Blk1 W b v):W.cell? ⟨b,0,none⟩=some v:=by unfold Blk1 at h;simp[World.cell?,h]
theorem Blk1.grown{W W':World}{b c:Nat}{v:Value}(h:Blk1 W c v)(hg:W.grownBy W' (some b))(a:c≠b):Blk1 W' c v:=(hg.block c h.lt (fun e=>a (Option.some.inj e))).trans h
theorem Blk1.alloc{W:World}{b:Nat}{v:Value}(h:Blk1 W b v)(o:Obj):Blk1 (W.alloc o) b v:=(yZ W o b h.lt).trans h
theorem Blk1.below{W W':World}{b:Nat}{v:Value}(h:Blk1 W b v)(hb:Below W.heap.size W W'):Blk1 W' b v:=(hb.block b h.lt).trans h
theorem BI(q:Rat):∃g n d,rq q=(g,n,d):=⟨_,_,_,rfl⟩
theorem Ea{q:Rat}{g:Bool}{n d:ByteArray}(h:rq q=(g,n,d)):qv q=.agg #[.bool g,.string n,.string d]:=by
 have h1:(rq q).1=g:=by rw[h]
 have h2:(rq q).2.1=n:=by rw[h]
 have h3:(rq q).2.2=d:=by rw[h]
 rw[<-h1,<-h2,<-h3];rfl
theorem Nb(B b k N cap:Nat)(r:Nat->Rat)(p:Rat)(pb:Nat)(w:World)(hE:EnvB B w)(hB:B<=b)(hR:RowB w b N fun j=>rq (r j))(hk:k<=N)(hN:N<=1000)(hp:B3 w pb (rq p).1 (rq p).2.1 (rq p).2.2)(ag:pb≠b)(h0:p≠0)(af:∀j,k<=j->j<N->ShortQ (r j)/\ShortQ p):
 Calls prog 92 #[.slice (some ⟨b,k*3,none⟩) ((N-k:Nat):Nat) cap,.func (.func 93) #[] #[.pointer (some ⟨pb,0,none⟩)]] w fun e w'=>e=.returned (.int .i64 0)/\w.grownBy w' (some b)/\RowB w' b N fun j=>rq (if k<=j then r j/p else r j):=by
 have ah:=zh (zV hB (xA hR.lt));obtain⟨m,hm⟩:∃m,m=N-k:=⟨_,rfl⟩;rw[<-hm];replace hB:=zh hB;replace hE:=zh hE;replace hR:=zh hR;replace af:=zh af;replace hp:=zh hp;replace ag:=zh ag;replace h0:=zh h0;have HM:Hid (k+m=N):=by show k+m=N;omega
 have ao:m<=1000:=by omega
 clear hm hk hN;go_enter func92,ntmps92;go_wp2
 go_loopw [11] (fun i wr=>∃y:Nat,y<=m/\i=.int .i64 (y:Int)/\Hid (w.grownBy wr (some b))/\Hid (RowB wr b N fun j=>rq (if k<=j/\j<k+y then r j/p else r j))) (fun i _=>m-(intOf i).toNat)
 case atStart=>exact⟨0,zO _,rfl,E7 _ _,hR.o.congr fun j _=>by rw[zC (by omega)]⟩
 case round=>
  obtain⟨i,hi,rfl,hG,aa⟩:=hrel
  by_cases hlt:i<m
  .have ae:k+i<N:=by have:=HM.o;omega
   have d:=aa.o.cell (j:=k+i) ae;have ad:=aa.o.frozen;rw[zC (by omega),yE]at d;have an:=aa.o.lt;obtain⟨xg,xn,xd,hx⟩:=BI (r (k+i));rw[hx]at d;obtain⟨c1,c2,c3⟩:=d;have f1:=ad (k*3+i*3);have f2:=ad (k*3+i*3+1);have f3:=ad (k*3+i*3+2);clear ad;have ho:=af.o (k+i) (by omega) (by omega);obtain⟨yg,yn,yd,hy⟩:=BI (r (k+i)/p);have kc:=fun W (h:Env W) (al:B3 W pb (rq p).1 (rq p).2.1 (rq p).2.2)=>OF (i:Int) (r (k+i)) p ho.1 ho.2 h0.o pb W h al;rw[Ea hx,Ea hy]at kc;have pw:=zh ((hp.o.grown hG.o ag.o).alloc (.cells #[.bool xg,.string xn,.string xd] 34));replace kc:=zh kc;replace hx:=zh hx;replace hy:=zh hy;clear ho;have aj:=zh (By hG.o hB.o ah.o);have ai:Hid (Below wr.heap.size wr (wr.alloc (.cells #[.bool xg,.string xn,.string xd] 34))):=Bb _ _
   go_wp2_with fail
   refine(kc.o _ ((hE.o.below (aj.o.trans (ai.o.mono (zV ah.o hG.o.size)))).env) pw.o).q fun w1 hb=>?_;have ak:=zh (AA (AA hG.o ai.o) hb);have a:=zh ((aa.o.alloc (.cells #[.bool xg,.string xn,.string xd] 34)).below hb (by simp;omega));clear hb c1 c2 c3 f1 f2 f3;have d:=a.o.cell (j:=k+i) ae;rw[zC (by omega),yE,hx.o]at d;obtain⟨c1,c2,c3⟩:=d;have f1:=a.o.frozen (k*3+i*3);have f2:=a.o.frozen (k*3+i*3+1);have f3:=a.o.frozen (k*3+i*3+2);have am:=a.o.lt;have ab:=a.o.set ae (yg,yn,yd);rw[yE]at ab
   replace ab:=zh (ab.congr (s:=fun j=>rq (if k<=j/\j<k+(i+1) then r j/p else r j)) fun j hj=>by
    by_cases e:j=k+i
    .rw[zE e,zE (by omega),e,hy.o]
    rw[zC e]
    by_cases h1:k<=j/\j<k+i
    .rw[zE h1,zE (by omega)]
    rw[zC h1,zC (by omega)])
   go_wp2
   go_roundw
   case rel=>exact⟨i+1,by omega,by go_num,AA (AO (AO (AO ak.o _ _) _ _) _ _) (Bb _ _),ab.o.alloc _⟩
   case measure=>simp[intOf];omega
  obtain rfl:i=m:=by omega
  go_wp2;go_ret
  exact ⟨rfl,hG.o,aa.o.congr fun j hj=>by
   by_cases h1:k<=j
   .rw[zE h1,zE ⟨h1,by have:=HM.o;omega⟩]
   rw[zC h1,zC fun h=>h1 h.1]⟩
theorem Nc(B b k N cap:Nat)(r:Nat->Rat)(p:Rat)(pb:Nat)(w:World)(hE:EnvB B w)(hB:B<=b)(hR:RowB w b N fun j=>rq (r j))(hk:k<=N)(hN:N<=1000)(hp:B3 w pb (rq p).1 (rq p).2.1 (rq p).2.2)(ai:pb≠b)(h0:p≠0)(t:Nat)(av:k<=t)(ay:t<N)(ao:∀j,k<=j->j<t->ShortQ (r j)/\ShortQ p)(ag:¬(ShortQ (r t)/\ShortQ p))(al:∀j,k<=j->j<N->OkQ (r j))(am:OkQ p):
 Calls prog 92 #[.slice (some ⟨b,k*3,none⟩) ((N-k:Nat):Nat) cap,.func (.func 93) #[] #[.pointer (some ⟨pb,0,none⟩)]] w fun e w'=>e=.returned (.int .i64 2)/\w.grownBy w' (some b):=by
 have ah:=zh (zV hB (xA hR.lt));obtain⟨m,hm⟩:∃m,m=N-k:=⟨_,rfl⟩;rw[<-hm];replace hB:=zh hB;replace hE:=zh hE;replace hR:=zh hR;replace ao:=zh ao;replace hp:=zh hp;replace ai:=zh ai;replace h0:=zh h0;replace ag:=zh ag;replace al:=zh al;replace am:=zh am;have HM:Hid (k+m=N):=by show k+m=N;omega
 have ax:m<=1000:=by omega
 clear hm hk hN;go_enter func92,ntmps92;go_wp2
 go_loopw [11] (fun i wr=>∃y:Nat,y<=t-k/\i=.int .i64 (y:Int)/\Hid (w.grownBy wr (some b))/\Hid (RowB wr b N fun j=>rq (if k<=j/\j<k+y then r j/p else r j))) (fun i _=>m-(intOf i).toNat)
 case atStart=>exact⟨0,zO _,rfl,E7 _ _,hR.o.congr fun j _=>by rw[zC (by omega)]⟩
 case round=>
  obtain⟨i,hi,rfl,hG,aa⟩:=hrel;have aw:i<m:=by have:=HM.o;omega
  by_cases he:i<t-k
  .have ae:k+i<N:=by have:=HM.o;omega
   have a:=aa.o.cell (j:=k+i) ae;have ab:=aa.o.frozen;rw[zC (by omega),yE]at a;have aq:=aa.o.lt;obtain⟨xg,xn,xd,hx⟩:=BI (r (k+i));rw[hx]at a;obtain⟨c1,c2,c3⟩:=a;have f1:=ab (k*3+i*3);have f2:=ab (k*3+i*3+1);have f3:=ab (k*3+i*3+2);clear ab;have ho:=ao.o (k+i) (by omega) (by omega);obtain⟨yg,yn,yd,hy⟩:=BI (r (k+i)/p);have kc:=fun W (h:Env W) (an:B3 W pb (rq p).1 (rq p).2.1 (rq p).2.2)=>OF (i:Int) (r (k+i)) p ho.1 ho.2 h0.o pb W h an;rw[Ea hx,Ea hy]at kc;have pw:=zh ((hp.o.grown hG.o ai.o).alloc (.cells #[.bool xg,.string xn,.string xd] 34));replace kc:=zh kc;replace hx:=zh hx;replace hy:=zh hy;clear ho;have aj:=zh (By hG.o hB.o ah.o);have af:Hid (Below wr.heap.size wr (wr.alloc (.cells #[.bool xg,.string xn,.string xd] 34))):=Bb _ _
   go_wp2_with fail
   refine(kc.o _ ((hE.o.below (aj.o.trans (af.o.mono (zV ah.o hG.o.size)))).env) pw.o).q fun w1 hb=>?_;have ak:=zh (AA (AA hG.o af.o) hb);have d:=zh ((aa.o.alloc (.cells #[.bool xg,.string xn,.string xd] 34)).below hb (by simp;omega));clear hb c1 c2 c3 f1 f2 f3;have a:=d.o.cell (j:=k+i) ae;rw[zC (by omega),yE,hx.o]at a;obtain⟨c1,c2,c3⟩:=a;have f1:=d.o.frozen (k*3+i*3);have f2:=d.o.frozen (k*3+i*3+1);have f3:=d.o.frozen (k*3+i*3+2);have au:=d.o.lt;have ad:=d.o.set ae (yg,yn,yd);rw[yE]at ad
   replace ad:=zh (ad.congr (s:=fun j=>rq (if k<=j/\j<k+(i+1) then r j/p else r j)) fun j hj=>by
    by_cases e:j=k+i
    .rw[zE e,zE (by omega),e,hy.o]
    rw[zC e]
    by_cases h1:k<=j/\j<k+i
    .rw[zE h1,zE (by omega)]
    rw[zC h1,zC (by omega)])
   go_wp2
   go_roundw
   case rel=>exact⟨i+1,by omega,by go_num,AA (AO (AO (AO ak.o _ _) _ _) _ _) (Bb _ _),ad.o.alloc _⟩
   case measure=>simp[intOf];omega
  have ar:k+i=t:=by omega
  obtain rfl:=ar;clear he hi;have ae:k+i<N:=by have:=HM.o;omega
  have a:=aa.o.cell (j:=k+i) ae;have ab:=aa.o.frozen;rw[zC (by omega),yE]at a;have aq:=aa.o.lt;obtain⟨xg,xn,xd,hx⟩:=BI (r (k+i));rw[hx]at a;obtain⟨c1,c2,c3⟩:=a;have f1:=ab (k*3+i*3);have f2:=ab (k*3+i*3+1);have f3:=ab (k*3+i*3+2);clear ab;have kc:=fun W (h:Env W) (an:B3 W pb (rq p).1 (rq p).2.1 (rq p).2.2)=>Ui (i:Int) (r (k+i)) p (al.o (k+i) (by omega) ae) am.o h0.o ag.o pb W h an;rw[Ea hx]at kc;simp only[zv]at kc;have pw:=zh ((hp.o.grown hG.o ai.o).alloc (.cells #[.bool xg,.string xn,.string xd] 34));replace kc:=zh kc;replace hx:=zh hx;have aj:=zh (By hG.o hB.o ah.o);have af:Hid (Below wr.heap.size wr (wr.alloc (.cells #[.bool xg,.string xn,.string xd] 34))):=Bb _ _
  go_wp2_with fail
  refine(kc.o _ ((hE.o.below (aj.o.trans (af.o.mono (zV ah.o hG.o.size)))).env) pw.o).q fun w1 hb=>?_;have ak:=zh (AA (AA hG.o af.o) hb);clear hb c1 c2 c3 f1 f2 f3;go_wp2;go_ret;exact⟨rfl,AA ak.o (Bb _ _)⟩
def SAt(W:World)(fb vb c o:Nat)(fg:Bool)(fn fd:ByteArray)(sv:Value)(sg:Bool)(sn sd:ByteArray):Prop :=
 B3 W fb fg fn fd/\Blk1 W vb sv/\c<W.heap.size/\W.cell? ⟨c,o,none⟩=some (.bool sg)/\W.cell? ⟨c,o+1,none⟩=some (.string sn)/\W.cell? ⟨c,o+2,none⟩=some (.string sd)
theorem Nd{q:Rat}{k:Nat}(h:Dg k q)(hk:k<=300):OkQ q:=by
 have h1:10^k<=Lim:=by
  unfold Lim;exact zW (by omega) (by rw[Dk];exact hk)
 exact⟨zL h.1 h1,zL h.2 h1⟩
theorem OG{p q:Rat}(hp:ShortQ p)(hq:ShortQ q):OkQ (p*q):=Nd (Dg.mul (k:=mx1) (m:=mx1) hp hq) (by rw[ES];omega)
theorem OH{p q:Rat}(hp:ShortQ p)(hq:ShortQ q):OkQ (p-q):=Nd (Dg.sub (k:=mx1) (m:=mx1) hp hq) (by rw[ES];omega)
theorem Kd{p q:Rat}(hp:ShortQ p)(hq:ShortQ q)(h0:q≠0):OkQ (p/q):=Nd (Dg.div (k:=mx1) (m:=mx1) hp hq h0) (by rw[ES];omega)
section
variable {W W':World} {fb vb c o Bx:Nat} {fg sg:Bool} {fn fd sn sd:ByteArray} {sv:Value}
theorem SAt.below(h:SAt W fb vb c o fg fn fd sv sg sn sd)(hb:Below W.heap.size W W'):SAt W' fb vb c o fg fn fd sv sg sn sd :=
 ⟨h.1.below hb,h.2.1.below hb,zL h.2.2.1 hb.size,(hb.cell (p:=⟨c,o,none⟩) h.2.2.1).trans h.2.2.2.1,(hb.cell (p:=⟨c,o+1,none⟩) h.2.2.1).trans h.2.2.2.2.1,(hb.cell (p:=⟨c,o+2,none⟩) h.2.2.1).trans h.2.2.2.2.2⟩
theorem SAt.alloc(h:SAt W fb vb c o fg fn fd sv sg sn sd)(x:Obj):SAt (W.alloc x) fb vb c o fg fn fd sv sg sn sd:=h.below ((zI _ W).alloc (zB _) x)
theorem SAt.seven(h:SAt W fb vb c o fg fn fd sv sg sn sd):
 W.cell? ⟨fb,0,none⟩=some (.bool fg)/\W.cell? ⟨fb,1,none⟩=some (.string fn)/\W.cell? ⟨fb,2,none⟩=some (.string fd)/\W.cell? ⟨vb,0,none⟩=some sv /\
 W.cell? ⟨c,o,none⟩=some (.bool sg)/\W.cell? ⟨c,o+1,none⟩=some (.string sn)/\W.cell? ⟨c,o+2,none⟩=some (.string sd) :=
 ⟨h.1.facts.1,h.1.facts.2.1,h.1.facts.2.2.1,h.2.1.cell,h.2.2.2⟩
theorem SAt.seven_set(h:SAt W fb vb c o fg fn fd sv sg sn sd)(h1:fb≠Bx)(h2:vb≠Bx)(h3:c≠Bx)(x y z:Value):
 (((W.setCell ⟨Bx,0,none⟩ x).setCell ⟨Bx,1,none⟩ y).setCell ⟨Bx,2,none⟩ z).cell? ⟨fb,0,none⟩=some (.bool fg)/\(((W.setCell ⟨Bx,0,none⟩ x).setCell ⟨Bx,1,none⟩ y).setCell ⟨Bx,2,none⟩ z).cell? ⟨fb,1,none⟩=some (.string fn)/\(((W.setCell ⟨Bx,0,none⟩ x).setCell ⟨Bx,1,none⟩ y).setCell ⟨Bx,2,none⟩ z).cell? ⟨fb,2,none⟩=some (.string fd)/\(((W.setCell ⟨Bx,0,none⟩ x).setCell ⟨Bx,1,none⟩ y).setCell ⟨Bx,2,none⟩ z).cell? ⟨vb,0,none⟩=some sv /\
 (((W.setCell ⟨Bx,0,none⟩ x).setCell ⟨Bx,1,none⟩ y).setCell ⟨Bx,2,none⟩ z).cell? ⟨c,o,none⟩=some (.bool sg)/\(((W.setCell ⟨Bx,0,none⟩ x).setCell ⟨Bx,1,none⟩ y).setCell ⟨Bx,2,none⟩ z).cell? ⟨c,o+1,none⟩=some (.string sn)/\(((W.setCell ⟨Bx,0,none⟩ x).setCell ⟨Bx,1,none⟩ y).setCell ⟨Bx,2,none⟩ z).cell? ⟨c,o+2,none⟩=some (.string sd):=by
 obtain⟨k0,k1,k2,k3,k4,k5,k6⟩:=h.seven;exact⟨(AP _ _ _ _ _ _ _ h1).trans k0,(AP _ _ _ _ _ _ _ h1).trans k1,(AP _ _ _ _ _ _ _ h1).trans k2,(AP _ _ _ _ _ _ _ h2).trans k3,(AP _ _ _ _ _ _ _ h3).trans k4,(AP _ _ _ _ _ _ _ h3).trans k5,(AP _ _ _ _ _ _ _ h3).trans k6⟩
end
theorem sub4_er(j k m cap2:Nat)(xg fg sg:Bool)(xn xd fn fd sn sd:ByteArray)(fb vb c:Nat)(w:World)(hE:Env w)(hj:j<m)
 (hs:SAt w fb vb c (k*3+j*3) fg fn fd (.slice (some ⟨c,k*3,none⟩) m cap2) sg sn sd)
 (km:∀W,Env W->Calls prog 28 #[.agg #[.bool fg,.string fn,.string fd],.agg #[.bool sg,.string sn,.string sd]] W fun e w'=>e=.returned (.tuple #[.agg #[.bool false,.string ⟨#[]⟩,.string ⟨#[]⟩],.int .i64 2])/\Below W.heap.size W w'):
 Calls prog 95 #[.int .i64 (j:Int),.agg #[.bool xg,.string xn,.string xd],.pointer (some ⟨fb,0,none⟩),.pointer (some ⟨vb,0,none⟩)] w fun e w'=>e=.returned (.tuple #[.agg #[.bool false,.string ⟨#[]⟩,.string ⟨#[]⟩],.int .i64 2])/\Below w.heap.size w w':=by
 have ag:Hid (B3 ((w.alloc (.cells #[.bool xg,.string xn,.string xd] 34)).alloc (.cells #[.bool false,.string ⟨#[]⟩,.string ⟨#[]⟩] 34)) w.heap.size xg xn xd):=(B3.new w _ _ _).alloc _
 have ah:Hid (B3 ((w.alloc (.cells #[.bool xg,.string xn,.string xd] 34)).alloc (.cells #[.bool false,.string ⟨#[]⟩,.string ⟨#[]⟩] 34)) (w.heap.size+1) false ⟨#[]⟩ ⟨#[]⟩):=by
  have h:=B3.new (w.alloc (.cells #[.bool xg,.string xn,.string xd] 34)) false ⟨#[]⟩ ⟨#[]⟩
  rwa [show (w.alloc (.cells #[.bool xg,.string xn,.string xd] 34)).heap.size=w.heap.size+1 by simp]at h
 have q0:=zh ((hs.alloc (.cells #[.bool xg,.string xn,.string xd] 34)).alloc (.cells #[.bool false,.string ⟨#[]⟩,.string ⟨#[]⟩] 34));have aa:Hid (Below w.heap.size w ((w.alloc (.cells #[.bool xg,.string xn,.string xd] 34)).alloc (.cells #[.bool false,.string ⟨#[]⟩,.string ⟨#[]⟩] 34))):=((zI _ w).alloc (zB _) _).alloc (by simp) _;obtain⟨W0,af⟩:∃W,W=(w.alloc (.cells #[.bool xg,.string xn,.string xd] 34)).alloc (.cells #[.bool false,.string ⟨#[]⟩,.string ⟨#[]⟩] 34):=⟨_,rfl⟩;rw[<-af]at ag ah q0 aa;have i0:(0:Int)<=(j:Int):=by omega
 have i1:(j:Int)<(m:Int):=by omega
 replace af:=zh af;replace hE:=zh hE;replace km:=zh km;clear hs;go_enter func95,ntmps95
 go_wp2_with fail
 rw[<-af.o];have q0d:Hid (SAt (W0.alloc (.cells #[.bool false,.string ⟨#[]⟩,.string ⟨#[]⟩] 34)).drew fb vb c (k*3+j*3) fg fn fd (.slice (some ⟨c,k*3,none⟩) m cap2) sg sn sd):=q0.o.alloc _;have x0d:Hid (B3 (W0.alloc (.cells #[.bool false,.string ⟨#[]⟩,.string ⟨#[]⟩] 34)).drew W0.heap.size false ⟨#[]⟩ ⟨#[]⟩):=B3.new W0 _ _ _;have ak:Hid (B3 (W0.alloc (.cells #[.bool false,.string ⟨#[]⟩,.string ⟨#[]⟩] 34)).drew w.heap.size xg xn xd):=ag.o.alloc _;have am:Hid (B3 (W0.alloc (.cells #[.bool false,.string ⟨#[]⟩,.string ⟨#[]⟩] 34)).drew (w.heap.size+1) false ⟨#[]⟩ ⟨#[]⟩):=ah.o.alloc _;have ab:Hid (Below w.heap.size w (W0.alloc (.cells #[.bool false,.string ⟨#[]⟩,.string ⟨#[]⟩] 34)).drew):=(aa.o.alloc aa.o.size _).drew;have q0e:Hid (SAt W0.drew fb vb c (k*3+j*3) fg fn fd (.slice (some ⟨c,k*3,none⟩) m cap2) sg sn sd):=q0.o;have al:Hid (B3 W0.drew w.heap.size xg xn xd):=ag.o;have an:Hid (B3 W0.drew (w.heap.size+1) false ⟨#[]⟩ ⟨#[]⟩):=ah.o;have ad:Hid (Below w.heap.size w W0.drew):=aa.o.drew;have s:Hid (fb≠W0.heap.size/\vb≠W0.heap.size/\c≠W0.heap.size/\w.heap.size≠W0.heap.size/\w.heap.size+1≠W0.heap.size):=⟨yb q0.o.1.lt,yb q0.o.2.1.lt,yb q0.o.2.2.1,yb ag.o.lt,yb ah.o.lt⟩;obtain⟨a1,a2,a3,b1,c1,c2,c3⟩:=q0.o.seven
 go_region_held3 (fun w'=>w'.cell? ⟨fb,0,none⟩=some (.bool fg)/\w'.cell? ⟨fb,1,none⟩=some (.string fn)/\w'.cell? ⟨fb,2,none⟩=some (.string fd)/\w'.cell? ⟨vb,0,none⟩=some (.slice (some ⟨c,k*3,none⟩) m cap2)/\w'.cell? ⟨c,k*3+j*3,none⟩=some (.bool sg)/\w'.cell? ⟨c,k*3+j*3+1,none⟩=some (.string sn)/\w'.cell? ⟨c,k*3+j*3+2,none⟩=some (.string sd)) (first|(with_reducible exact q0.o.seven)|(with_reducible exact(q0.o.alloc _).seven)|(with_reducible exact q0d.o.seven)|(with_reducible exact q0e.o.seven)|(with_reducible exact q2.o.seven)|(with_reducible exact(q2.o.alloc _).seven)|(with_reducible exact q2.o.seven_set s.o.1 s.o.2.1 s.o.2.2.1 _ _ _)|go_keep)
  (first
    |(go_at_call 28;refine(km.o _ ?_).mono ?_;(with_reducible exact hE.o.below ab.o);rintro e w2 ⟨rfl,a⟩;have q2:=zh (q0d.o.below a);have ae:=ab.t a;have x2:=zh (x0d.o.below a);have ai:=zh (ak.o.below a);have aj:=zh (am.o.below a);obtain⟨y1,y2,y3,y4,y5,y6⟩:=x2.o.facts;have y7:=x2.o.lt;clear a)
    |(go_at_call 28;refine(km.o _ ?_).mono ?_;(with_reducible exact hE.o.below ad.o);rintro e w2 ⟨rfl,a⟩;have q2:=zh (q0e.o.below a);have ae:=ad.t a;have ai:=zh (al.o.below a);have aj:=zh (an.o.below a);clear a))
 all_goals (
  skip
  first
   |(obtain⟨w3,d⟩:∃W,W=w2.alloc (.cells #[.bool false,.string ⟨#[]⟩,.string ⟨#[]⟩] 34):=⟨_,rfl⟩;rw[<-d];have ar:Hid (B3 w3 w.heap.size xg xn xd):=(by rw[d];exact ai.o.alloc _);have ao:Hid (B3 w3 (w.heap.size+1) false ⟨#[]⟩ ⟨#[]⟩):=(by rw[d];exact aj.o.alloc _);have au:Hid (B3 w3 w2.heap.size false ⟨#[]⟩ ⟨#[]⟩):=(by rw[d];exact B3.new w2 _ _ _);have aq:Hid (Below w.heap.size w w3):=(by rw[d];exact ae.o.alloc ae.o.size _))
   |(obtain⟨w3,d⟩:∃W,W=((w2.setCell ⟨W0.heap.size,0,none⟩ (.bool false)).setCell ⟨W0.heap.size,1,none⟩ (.string ⟨#[]⟩)).setCell ⟨W0.heap.size,2,none⟩ (.string ⟨#[]⟩):=⟨_,rfl⟩;rw[<-d];have ar:Hid (B3 w3 w.heap.size xg xn xd):=(by rw[d];exact((ai.o.other s.o.2.2.2.1 _).other s.o.2.2.2.1 _).other s.o.2.2.2.1 _);have ao:Hid (B3 w3 (w.heap.size+1) false ⟨#[]⟩ ⟨#[]⟩):=(by rw[d];exact((aj.o.other s.o.2.2.2.2 _).other s.o.2.2.2.2 _).other s.o.2.2.2.2 _);have au:Hid (B3 w3 W0.heap.size false ⟨#[]⟩ ⟨#[]⟩):=(by rw[d];exact((x2.o.set0 false).set1 ⟨#[]⟩).set2 ⟨#[]⟩);have aq:Hid (Below w.heap.size w w3):=(by rw[d];exact((ae.o.setCell aa.o.size _).setCell aa.o.size _).setCell aa.o.size _);clear x2 y1 y2 y3 y4 y5 y6 y7)
  clear d q2 ae ai aj q0 q0d q0e x0d ag ah ak am al an aa ab ad s af a1 a2 a3 b1 c1 c2 c3 km i0 i1;obtain⟨x1,x2,x3,x4,x5,x6⟩:=ar.o.facts;obtain⟨z1,z2,z3,z4,z5,z6⟩:=ao.o.facts;have z7:=ao.o.lt;obtain⟨y1,y2,y3,y4,y5,y6⟩:=au.o.facts;go_wp2;refine zX (v:=.tuple #[.agg #[.bool false,.string ⟨#[]⟩,.string ⟨#[]⟩],.int .i64 2]) (by simp[results,results95,go_sem,z1,z2,z3]) rfl ⟨rfl,?_⟩
  repeat refine ze ?_ (by simp only[];omega) _
  exact aq.o
  )
theorem OI(j k m cap2:Nat)(xg fg sg r1 r2:Bool)(xn xd fn fd sn sd n1 d1 n2 d2:ByteArray)(E:Int)(fb vb c:Nat)(w:World)(hE:Env w)(hj:j<m)
 (hs:SAt w fb vb c (k*3+j*3) fg fn fd (.slice (some ⟨c,k*3,none⟩) m cap2) sg sn sd)
 (km:∀W,Env W->Calls prog 28 #[.agg #[.bool fg,.string fn,.string fd],.agg #[.bool sg,.string sn,.string sd]] W fun e w'=>e=.returned (.tuple #[.agg #[.bool r1,.string n1,.string d1],.int .i64 0])/\Below W.heap.size W w')
 (ks:∀W,Env W->Calls prog 75 #[.agg #[.bool xg,.string xn,.string xd],.agg #[.bool r1,.string n1,.string d1]] W fun e w'=>e=.returned (.tuple #[.agg #[.bool r2,.string n2,.string d2],.int .i64 E])/\Below W.heap.size W w'):
 Calls prog 95 #[.int .i64 (j:Int),.agg #[.bool xg,.string xn,.string xd],.pointer (some ⟨fb,0,none⟩),.pointer (some ⟨vb,0,none⟩)] w fun e w'=>e=.returned (.tuple #[.agg #[.bool r2,.string n2,.string d2],.int .i64 E])/\Below w.heap.size w w':=by
 have ag:Hid (B3 ((w.alloc (.cells #[.bool xg,.string xn,.string xd] 34)).alloc (.cells #[.bool false,.string ⟨#[]⟩,.string ⟨#[]⟩] 34)) w.heap.size xg xn xd):=(B3.new w _ _ _).alloc _
 have ah:Hid (B3 ((w.alloc (.cells #[.bool xg,.string xn,.string xd] 34)).alloc (.cells #[.bool false,.string ⟨#[]⟩,.string ⟨#[]⟩] 34)) (w.heap.size+1) false ⟨#[]⟩ ⟨#[]⟩):=by
  have h:=B3.new (w.alloc (.cells #[.bool xg,.string xn,.string xd] 34)) false ⟨#[]⟩ ⟨#[]⟩
  rwa [show (w.alloc (.cells #[.bool xg,.string xn,.string xd] 34)).heap.size=w.heap.size+1 by simp]at h
 have q0:=zh ((hs.alloc (.cells #[.bool xg,.string xn,.string xd] 34)).alloc (.cells #[.bool false,.string ⟨#[]⟩,.string ⟨#[]⟩] 34));have aa:Hid (Below w.heap.size w ((w.alloc (.cells #[.bool xg,.string xn,.string xd] 34)).alloc (.cells #[.bool false,.string ⟨#[]⟩,.string ⟨#[]⟩] 34))):=((zI _ w).alloc (zB _) _).alloc (by simp) _;obtain⟨W0,af⟩:∃W,W=(w.alloc (.cells #[.bool xg,.string xn,.string xd] 34)).alloc (.cells #[.bool false,.string ⟨#[]⟩,.string ⟨#[]⟩] 34):=⟨_,rfl⟩;rw[<-af]at ag ah q0 aa;have i0:(0:Int)<=(j:Int):=by omega
 have i1:(j:Int)<(m:Int):=by omega
 replace af:=zh af;replace hE:=zh hE;replace km:=zh km;replace ks:=zh ks;clear hs;go_enter func95,ntmps95
 go_wp2_with fail
 rw[<-af.o];have q0d:Hid (SAt (W0.alloc (.cells #[.bool false,.string ⟨#[]⟩,.string ⟨#[]⟩] 34)).drew fb vb c (k*3+j*3) fg fn fd (.slice (some ⟨c,k*3,none⟩) m cap2) sg sn sd):=q0.o.alloc _;have x0d:Hid (B3 (W0.alloc (.cells #[.bool false,.string ⟨#[]⟩,.string ⟨#[]⟩] 34)).drew W0.heap.size false ⟨#[]⟩ ⟨#[]⟩):=B3.new W0 _ _ _;have am:Hid (B3 (W0.alloc (.cells #[.bool false,.string ⟨#[]⟩,.string ⟨#[]⟩] 34)).drew w.heap.size xg xn xd):=ag.o.alloc _;have ao:Hid (B3 (W0.alloc (.cells #[.bool false,.string ⟨#[]⟩,.string ⟨#[]⟩] 34)).drew (w.heap.size+1) false ⟨#[]⟩ ⟨#[]⟩):=ah.o.alloc _;have ab:Hid (Below w.heap.size w (W0.alloc (.cells #[.bool false,.string ⟨#[]⟩,.string ⟨#[]⟩] 34)).drew):=(aa.o.alloc aa.o.size _).drew;have q0e:Hid (SAt W0.drew fb vb c (k*3+j*3) fg fn fd (.slice (some ⟨c,k*3,none⟩) m cap2) sg sn sd):=q0.o;have an:Hid (B3 W0.drew w.heap.size xg xn xd):=ag.o;have aq:Hid (B3 W0.drew (w.heap.size+1) false ⟨#[]⟩ ⟨#[]⟩):=ah.o;have ad:Hid (Below w.heap.size w W0.drew):=aa.o.drew;have s:Hid (fb≠W0.heap.size/\vb≠W0.heap.size/\c≠W0.heap.size/\w.heap.size≠W0.heap.size/\w.heap.size+1≠W0.heap.size):=⟨yb q0.o.1.lt,yb q0.o.2.1.lt,yb q0.o.2.2.1,yb ag.o.lt,yb ah.o.lt⟩;obtain⟨a1,a2,a3,b1,c1,c2,c3⟩:=q0.o.seven
 go_region_held3 (fun w'=>w'.cell? ⟨fb,0,none⟩=some (.bool fg)/\w'.cell? ⟨fb,1,none⟩=some (.string fn)/\w'.cell? ⟨fb,2,none⟩=some (.string fd)/\w'.cell? ⟨vb,0,none⟩=some (.slice (some ⟨c,k*3,none⟩) m cap2)/\w'.cell? ⟨c,k*3+j*3,none⟩=some (.bool sg)/\w'.cell? ⟨c,k*3+j*3+1,none⟩=some (.string sn)/\w'.cell? ⟨c,k*3+j*3+2,none⟩=some (.string sd)) (first|(with_reducible exact q0.o.seven)|(with_reducible exact(q0.o.alloc _).seven)|(with_reducible exact q0d.o.seven)|(with_reducible exact q0e.o.seven)|(with_reducible exact q2.o.seven)|(with_reducible exact(q2.o.alloc _).seven)|(with_reducible exact q2.o.seven_set s.o.1 s.o.2.1 s.o.2.2.1 _ _ _)|go_keep)
  (first
    |(go_at_call 28;refine(km.o _ ?_).mono ?_;(with_reducible exact hE.o.below ab.o);rintro e w2 ⟨rfl,a⟩;have q2:=zh (q0d.o.below a);have ae:=ab.t a;have x2:=zh (x0d.o.below a);have aj:=zh (am.o.below a);have ak:=zh (ao.o.below a);obtain⟨y1,y2,y3,y4,y5,y6⟩:=x2.o.facts;have y7:=x2.o.lt;clear a)
    |(go_at_call 28;refine(km.o _ ?_).mono ?_;(with_reducible exact hE.o.below ad.o);rintro e w2 ⟨rfl,a⟩;have q2:=zh (q0e.o.below a);have ae:=ad.t a;have aj:=zh (an.o.below a);have ak:=zh (aq.o.below a);clear a))
 all_goals (
  skip
  first
   |(obtain⟨w3,d⟩:∃W,W=w2.alloc (.cells #[.bool r1,.string n1,.string d1] 34):=⟨_,rfl⟩;rw[<-d];have ar:Hid (B3 w3 w.heap.size xg xn xd):=(by rw[d];exact aj.o.alloc _);have al:Hid (B3 w3 (w.heap.size+1) false ⟨#[]⟩ ⟨#[]⟩):=(by rw[d];exact ak.o.alloc _);have au:Hid (B3 w3 w2.heap.size r1 n1 d1):=(by rw[d];exact B3.new w2 _ _ _);have ai:Hid (Below w.heap.size w w3):=(by rw[d];exact ae.o.alloc ae.o.size _))
   |(obtain⟨w3,d⟩:∃W,W=((w2.setCell ⟨W0.heap.size,0,none⟩ (.bool r1)).setCell ⟨W0.heap.size,1,none⟩ (.string n1)).setCell ⟨W0.heap.size,2,none⟩ (.string d1):=⟨_,rfl⟩;rw[<-d];have ar:Hid (B3 w3 w.heap.size xg xn xd):=(by rw[d];exact((aj.o.other s.o.2.2.2.1 _).other s.o.2.2.2.1 _).other s.o.2.2.2.1 _);have al:Hid (B3 w3 (w.heap.size+1) false ⟨#[]⟩ ⟨#[]⟩):=(by rw[d];exact((ak.o.other s.o.2.2.2.2 _).other s.o.2.2.2.2 _).other s.o.2.2.2.2 _);have au:Hid (B3 w3 W0.heap.size r1 n1 d1):=(by rw[d];exact((x2.o.set0 r1).set1 n1).set2 d1);have ai:Hid (Below w.heap.size w w3):=(by rw[d];exact((ae.o.setCell aa.o.size _).setCell aa.o.size _).setCell aa.o.size _);clear x2 y1 y2 y3 y4 y5 y6 y7)
  clear d q2 ae aj ak q0 q0d q0e x0d ag ah am ao an aq aa ab ad s af a1 a2 a3 b1 c1 c2 c3 km i0 i1;obtain⟨x1,x2,x3,x4,x5,x6⟩:=ar.o.facts;obtain⟨z1,z2,z3,z4,z5,z6⟩:=al.o.facts;have z7:=al.o.lt;obtain⟨y1,y2,y3,y4,y5,y6⟩:=au.o.facts
  go_wp2_with fail
  refine(ks.o _ (hE.o.below ai.o)).q fun w4 hb=>?_;have av:=zh (al.o.below hb);have aw:=ai.t hb;clear hb x1 x2 x3 x4 x5 x6 y1 y2 y3 y4 y5 y6 z1 z2 z3 z4 z5 z6 z7;obtain⟨z1,z2,z3,z4,z5,z6⟩:=av.o.facts;have z7:=av.o.lt;go_wp2;refine zX (v:=.tuple #[.agg #[.bool r2,.string n2,.string d2],.int .i64 E]) (by simp[results,results95,go_sem,z1,z2,z3]) rfl ⟨rfl,?_⟩
  repeat refine ze ?_ (by simp only[];omega) _
  exact aw.o
  )
theorem Jr(j k m cap2:Nat)(q f s:Rat)(hf:ShortQ f)(hs:ShortQ s)(hq:ShortQ q)(a:ShortQ (f*s))(fb vb c:Nat)(w:World)(hE:Env w)(hj:j<m)
 (h:SAt w fb vb c (k*3+j*3) (rq f).1 (rq f).2.1 (rq f).2.2 (.slice (some ⟨c,k*3,none⟩) m cap2) (rq s).1 (rq s).2.1 (rq s).2.2):
 Calls prog 95 #[.int .i64 (j:Int),qv q,.pointer (some ⟨fb,0,none⟩),.pointer (some ⟨vb,0,none⟩)] w fun e w'=>e=.returned (.tuple #[qv (q-f*s),.int .i64 0])/\Below w.heap.size w w' :=
 OI j k m cap2 _ _ _ _ _ _ _ _ _ _ _ _ _ _ _ _ fb vb c w hE hj h (fun W hW=>G5 f s hf hs W hW) (fun W hW=>PG q (f*s) hq a W hW)
theorem PR(j k m cap2:Nat)(q f s:Rat)(hf:OkQ f)(hs:OkQ s)(hq:OkQ q)(a:¬(ShortQ f/\ShortQ s/\ShortQ q/\ShortQ (f*s)))(fb vb c:Nat)(w:World)(hE:Env w)(hj:j<m)
 (h:SAt w fb vb c (k*3+j*3) (rq f).1 (rq f).2.1 (rq f).2.2 (.slice (some ⟨c,k*3,none⟩) m cap2) (rq s).1 (rq s).2.1 (rq s).2.2):
 Calls prog 95 #[.int .i64 (j:Int),qv q,.pointer (some ⟨fb,0,none⟩),.pointer (some ⟨vb,0,none⟩)] w fun e w'=>e=.returned (.tuple #[zv,.int .i64 2])/\Below w.heap.size w w':=by
 by_cases h1:ShortQ f/\ShortQ s
 .exact OI j k m cap2 _ _ _ _ _ _ _ _ _ _ _ _ _ _ _ _ fb vb c w hE hj h (fun W hW=>G5 f s h1.1 h1.2 W hW) (fun W hW=>RH q (f*s) hq (OG h1.1 h1.2) (fun h2=>a ⟨h1.1,h1.2,h2.1,h2.2⟩) W hW)
 exact sub4_er j k m cap2 _ _ _ _ _ _ _ _ _ fb vb c w hE hj h (fun W hW=>RI f s hf hs h1 W hW)
end Nt
end
section
open Go.RowKit Go.Shelf
namespace Nt
theorem Nf(B b k N cap:Nat)(r:Nat->Rat)(f:Rat)(s:Nat->Rat)(fb vb c cap2:Nat)(w:World)(hE:EnvB B w)(hB:B<=b)(hR:RowB w b N fun j=>rq (r j))(hk:k<=N)(hN:N<=1000)(hf:B3 w fb (rq f).1 (rq f).2.1 (rq f).2.2)(ai:fb≠b)(hv:Blk1 w vb (.slice (some ⟨c,k*3,none⟩) (N-k) cap2))(ak:vb≠b)(hS:RowB w c N fun j=>rq (s j))(ag:c≠b)(aj:∀j,k<=j->j<N->ShortQ f/\ShortQ (s j)/\ShortQ (r j)/\ShortQ (f*s j)):
 Calls prog 92 #[.slice (some ⟨b,k*3,none⟩) ((N-k:Nat):Nat) cap,.func (.func 95) #[] #[.pointer (some ⟨fb,0,none⟩),.pointer (some ⟨vb,0,none⟩)]] w fun e w'=>e=.returned (.int .i64 0)/\w.grownBy w' (some b)/\RowB w' b N fun j=>rq (if k<=j then r j-f*s j else r j):=by
 have al:=zh (zV hB (xA hR.lt));obtain⟨m,hm⟩:∃m,m=N-k:=⟨_,rfl⟩;rw[<-hm]at hv ⊢;replace hB:=zh hB;replace hE:=zh hE;replace hR:=zh hR;replace aj:=zh aj;replace hf:=zh hf;replace ai:=zh ai;replace hv:=zh hv;replace ak:=zh ak;replace hS:=zh hS;replace ag:=zh ag;have HM:Hid (k+m=N):=by show k+m=N;omega
 have av:m<=1000:=by omega
 clear hm hk hN;go_enter func92,ntmps92;go_wp2
 go_loopw [11] (fun i wr=>∃y:Nat,y<=m/\i=.int .i64 (y:Int)/\Hid (w.grownBy wr (some b))/\Hid (RowB wr b N fun j=>rq (if k<=j/\j<k+y then r j-f*s j else r j))) (fun i _=>m-(intOf i).toNat)
 case atStart=>exact⟨0,zO _,rfl,E7 _ _,hR.o.congr fun j _=>by rw[zC (by omega)]⟩
 case round=>
  obtain⟨i,hi,rfl,hG,aa⟩:=hrel
  by_cases hlt:i<m
  .have ae:k+i<N:=by have:=HM.o;omega
   have d:=aa.o.cell (j:=k+i) ae;have ad:=aa.o.frozen;rw[zC (by omega),yE]at d;have au:=aa.o.lt;obtain⟨xg,xn,xd,hx⟩:=BI (r (k+i));rw[hx]at d;obtain⟨c1,c2,c3⟩:=d;have f1:=ad (k*3+i*3);have f2:=ad (k*3+i*3+1);have f3:=ad (k*3+i*3+2);clear ad;have af:=hS.o.grown hG.o (fun e=>ag.o (Option.some.inj e));have ah:=af.cell (j:=k+i) ae;rw[yE]at ah
   have aq:Hid (SAt (wr.alloc (.cells #[.bool xg,.string xn,.string xd] 34)) fb vb c (k*3+i*3) (rq f).1 (rq f).2.1 (rq f).2.2 (.slice (some ⟨c,k*3,none⟩) m cap2) (rq (s (k+i))).1 (rq (s (k+i))).2.1 (rq (s (k+i))).2.2) :=
    SAt.alloc ⟨hf.o.grown hG.o ai.o,hv.o.grown hG.o ak.o,af.lt,ah⟩ _
   clear af ah;have ho:=aj.o (k+i) (by omega) (by omega);obtain⟨yg,yn,yd,hy⟩:=BI (r (k+i)-f*s (k+i));have kc:=fun W (h:Env W) h3=>Jr i k m cap2 (r (k+i)) f (s (k+i)) ho.1 ho.2.1 ho.2.2.1 ho.2.2.2 fb vb c W h (by omega) h3;rw[Ea hx,Ea hy]at kc;replace kc:=zh kc;replace hx:=zh hx;replace hy:=zh hy;clear ho;have an:=zh (By hG.o hB.o al.o);have am:Hid (Below wr.heap.size wr (wr.alloc (.cells #[.bool xg,.string xn,.string xd] 34))):=Bb _ _
   go_wp2_with fail
   refine(kc.o _ ((hE.o.below (an.o.trans (am.o.mono (zV al.o hG.o.size)))).env) aq.o).q fun w1 hb=>?_;have ao:=zh (AA (AA hG.o am.o) hb);have a:=zh ((aa.o.alloc (.cells #[.bool xg,.string xn,.string xd] 34)).below hb (by simp;omega));clear hb c1 c2 c3 f1 f2 f3;have d:=a.o.cell (j:=k+i) ae;rw[zC (by omega),yE,hx.o]at d;obtain⟨c1,c2,c3⟩:=d;have f1:=a.o.frozen (k*3+i*3);have f2:=a.o.frozen (k*3+i*3+1);have f3:=a.o.frozen (k*3+i*3+2);have ar:=a.o.lt;have ab:=a.o.set ae (yg,yn,yd);rw[yE]at ab
   replace ab:=zh (ab.congr (s:=fun j=>rq (if k<=j/\j<k+(i+1) then r j-f*s j else r j)) fun j hj=>by
    by_cases e:j=k+i
    .rw[zE e,zE (by omega),e,hy.o]
    rw[zC e]
    by_cases h1:k<=j/\j<k+i
    .rw[zE h1,zE (by omega)]
    rw[zC h1,zC (by omega)])
   go_wp2
   go_roundw
   case rel=>exact⟨i+1,by omega,by go_num,AA (AO (AO (AO ao.o _ _) _ _) _ _) (Bb _ _),ab.o.alloc _⟩
   case measure=>simp[intOf];omega
  obtain rfl:i=m:=by omega
  go_wp2;go_ret
  exact ⟨rfl,hG.o,aa.o.congr fun j hj=>by
   by_cases h1:k<=j
   .rw[zE h1,zE ⟨h1,by have:=HM.o;omega⟩]
   rw[zC h1,zC fun h=>h1 h.1]⟩
theorem Ng(B b k N cap:Nat)(r:Nat->Rat)(f:Rat)(s:Nat->Rat)(fb vb c cap2:Nat)(w:World)(hE:EnvB B w)(hB:B<=b)(hR:RowB w b N fun j=>rq (r j))(hk:k<=N)(hN:N<=1000)(hf:B3 w fb (rq f).1 (rq f).2.1 (rq f).2.2)(al:fb≠b)(hv:Blk1 w vb (.slice (some ⟨c,k*3,none⟩) (N-k) cap2))(am:vb≠b)(hS:RowB w c N fun j=>rq (s j))(ak:c≠b)(t:Nat)(az:k<=t)(aC:t<N)(av:∀j,k<=j->j<t->ShortQ f/\ShortQ (s j)/\ShortQ (r j)/\ShortQ (f*s j))(ai:¬(ShortQ f/\ShortQ (s t)/\ShortQ (r t)/\ShortQ (f*s t)))(aq:∀j,k<=j->j<N->OkQ (r j)/\OkQ (s j))(ar:OkQ f):
 Calls prog 92 #[.slice (some ⟨b,k*3,none⟩) ((N-k:Nat):Nat) cap,.func (.func 95) #[] #[.pointer (some ⟨fb,0,none⟩),.pointer (some ⟨vb,0,none⟩)]] w fun e w'=>e=.returned (.int .i64 2)/\w.grownBy w' (some b):=by
 have aj:=zh (zV hB (xA hR.lt));obtain⟨m,hm⟩:∃m,m=N-k:=⟨_,rfl⟩;rw[<-hm]at hv ⊢;replace hB:=zh hB;replace hE:=zh hE;replace hR:=zh hR;replace av:=zh av;replace hf:=zh hf;replace al:=zh al;replace hv:=zh hv;replace am:=zh am;replace hS:=zh hS;replace ak:=zh ak;replace ai:=zh ai;replace aq:=zh aq;replace ar:=zh ar;have HM:Hid (k+m=N):=by show k+m=N;omega
 have aB:m<=1000:=by omega
 clear hm hk hN;go_enter func92,ntmps92;go_wp2
 go_loopw [11] (fun i wr=>∃y:Nat,y<=t-k/\i=.int .i64 (y:Int)/\Hid (w.grownBy wr (some b))/\Hid (RowB wr b N fun j=>rq (if k<=j/\j<k+y then r j-f*s j else r j))) (fun i _=>m-(intOf i).toNat)
 case atStart=>exact⟨0,zO _,rfl,E7 _ _,hR.o.congr fun j _=>by rw[zC (by omega)]⟩
 case round=>
  obtain⟨i,hi,rfl,hG,aa⟩:=hrel;have aA:i<m:=by have:=HM.o;omega
  by_cases he:i<t-k
  .have ad:k+i<N:=by have:=HM.o;omega
   have a:=aa.o.cell (j:=k+i) ad;have ab:=aa.o.frozen;rw[zC (by omega),yE]at a;have aw:=aa.o.lt;obtain⟨xg,xn,xd,hx⟩:=BI (r (k+i));rw[hx]at a;obtain⟨c1,c2,c3⟩:=a;have f1:=ab (k*3+i*3);have f2:=ab (k*3+i*3+1);have f3:=ab (k*3+i*3+2);clear ab;have ae:=hS.o.grown hG.o (fun e=>ak.o (Option.some.inj e));have af:=ae.cell (j:=k+i) ad;rw[yE]at af
   have au:Hid (SAt (wr.alloc (.cells #[.bool xg,.string xn,.string xd] 34)) fb vb c (k*3+i*3) (rq f).1 (rq f).2.1 (rq f).2.2 (.slice (some ⟨c,k*3,none⟩) m cap2) (rq (s (k+i))).1 (rq (s (k+i))).2.1 (rq (s (k+i))).2.2) :=
    SAt.alloc ⟨hf.o.grown hG.o al.o,hv.o.grown hG.o am.o,ae.lt,af⟩ _
   clear ae af;have ho:=av.o (k+i) (by omega) (by omega);obtain⟨yg,yn,yd,hy⟩:=BI (r (k+i)-f*s (k+i));have kc:=fun W (h:Env W) h3=>Jr i k m cap2 (r (k+i)) f (s (k+i)) ho.1 ho.2.1 ho.2.2.1 ho.2.2.2 fb vb c W h (by omega) h3;rw[Ea hx,Ea hy]at kc;replace kc:=zh kc;replace hx:=zh hx;replace hy:=zh hy;clear ho;have an:=zh (By hG.o hB.o aj.o);have ah:Hid (Below wr.heap.size wr (wr.alloc (.cells #[.bool xg,.string xn,.string xd] 34))):=Bb _ _
   go_wp2_with fail
   refine(kc.o _ ((hE.o.below (an.o.trans (ah.o.mono (zV aj.o hG.o.size)))).env) au.o).q fun w1 hb=>?_;have ao:=zh (AA (AA hG.o ah.o) hb);have d:=zh ((aa.o.alloc (.cells #[.bool xg,.string xn,.string xd] 34)).below hb (by simp;omega));clear hb c1 c2 c3 f1 f2 f3;have a:=d.o.cell (j:=k+i) ad;rw[zC (by omega),yE,hx.o]at a;obtain⟨c1,c2,c3⟩:=a;have f1:=d.o.frozen (k*3+i*3);have f2:=d.o.frozen (k*3+i*3+1);have f3:=d.o.frozen (k*3+i*3+2);have ay:=d.o.lt;have ag:=d.o.set ad (yg,yn,yd);rw[yE]at ag
   replace ag:=zh (ag.congr (s:=fun j=>rq (if k<=j/\j<k+(i+1) then r j-f*s j else r j)) fun j hj=>by
    by_cases e:j=k+i
    .rw[zE e,zE (by omega),e,hy.o]
    rw[zC e]
    by_cases h1:k<=j/\j<k+i
    .rw[zE h1,zE (by omega)]
    rw[zC h1,zC (by omega)])
   go_wp2
   go_roundw
   case rel=>exact⟨i+1,by omega,by go_num,AA (AO (AO (AO ao.o _ _) _ _) _ _) (Bb _ _),ag.o.alloc _⟩
   case measure=>simp[intOf];omega
  have ax:k+i=t:=by omega
  obtain rfl:=ax;clear he hi;have ad:k+i<N:=by have:=HM.o;omega
  have a:=aa.o.cell (j:=k+i) ad;have ab:=aa.o.frozen;rw[zC (by omega),yE]at a;have aw:=aa.o.lt;obtain⟨xg,xn,xd,hx⟩:=BI (r (k+i));rw[hx]at a;obtain⟨c1,c2,c3⟩:=a;have f1:=ab (k*3+i*3);have f2:=ab (k*3+i*3+1);have f3:=ab (k*3+i*3+2);clear ab;have ae:=hS.o.grown hG.o (fun e=>ak.o (Option.some.inj e));have af:=ae.cell (j:=k+i) ad;rw[yE]at af
  have au:Hid (SAt (wr.alloc (.cells #[.bool xg,.string xn,.string xd] 34)) fb vb c (k*3+i*3) (rq f).1 (rq f).2.1 (rq f).2.2 (.slice (some ⟨c,k*3,none⟩) m cap2) (rq (s (k+i))).1 (rq (s (k+i))).2.1 (rq (s (k+i))).2.2) :=
   SAt.alloc ⟨hf.o.grown hG.o al.o,hv.o.grown hG.o am.o,ae.lt,af⟩ _
  clear ae af;have hO:=aq.o (k+i) (by omega) ad;have kc:=fun W (h:Env W) h3=>PR i k m cap2 (r (k+i)) f (s (k+i)) ar.o hO.2 hO.1 ai.o fb vb c W h (by omega) h3;rw[Ea hx]at kc;simp only[zv]at kc;clear hO;replace kc:=zh kc;replace hx:=zh hx;have an:=zh (By hG.o hB.o aj.o);have ah:Hid (Below wr.heap.size wr (wr.alloc (.cells #[.bool xg,.string xn,.string xd] 34))):=Bb _ _
  go_wp2_with fail
  refine(kc.o _ ((hE.o.below (an.o.trans (ah.o.mono (zV aj.o hG.o.size)))).env) au.o).q fun w1 hb=>?_;have ao:=zh (AA (AA hG.o ah.o) hb);clear hb c1 c2 c3 f1 f2 f3;go_wp2;go_ret;exact⟨rfl,AA ao.o (Bb _ _)⟩
def Int1(W:World)(b:Nat)(z:Int):Prop:=W.heap[b]? = some (.cells #[.int .i64 z] 3 (0,0))
section
variable {W W':World} {b:Nat} {z:Int}
theorem Int1.lt(h:Int1 W b z):b<W.heap.size:=(Array.getElem?_eq_some_iff.1 h).1
theorem Int1.cell(h:Int1 W b z):W.cell? ⟨b,0,none⟩=some (.int .i64 z):=by unfold Int1 at h;simp[World.cell?,h]
theorem Int1.grown{c:Nat}(h:Int1 W b z)(hg:W.grownBy W' (some c))(a:b≠c):Int1 W' b z:=(hg.block b h.lt (fun e=>a (Option.some.inj e))).trans h
theorem Int1.alloc(h:Int1 W b z)(o:Obj):Int1 (W.alloc o) b z:=(yZ W o b h.lt).trans h
theorem Int1.below(h:Int1 W b z)(hb:Below W.heap.size W W'):Int1 W' b z:=(hb.block b h.lt).trans h
theorem Int1.new(w:World)(z:Int):Int1 (w.alloc (.cells #[.int .i64 z] 3)) w.heap.size z:=zo _ _
theorem Int1.far(h:Int1 W b z){p:Addr}(hp:b≠p.block)(v:Value):Int1 (W.setCell p v) b z:=(zg _ _ _ _ hp).trans h
theorem Int1.ne_row{c m:Nat}{r:Nat->Raw}(h:Int1 W b z)(h2:RowB W c m r):b≠c:=by
 rintro rfl;unfold Int1 at h;unfold RowB at h2;rw[h]at h2;injection h2 with h2;injection h2 with _ h3;exact absurd h3 (by decide)
theorem B3.ne_row{c m:Nat}{r:Nat->Raw}{g:Bool}{n d:ByteArray}(h:B3 W b g n d)(h2:RowB W c m r)(hm:m≠1):b≠c:=by
 rintro rfl;unfold B3 at h;unfold RowB at h2;rw[h]at h2;injection h2 with h2;injection h2 with h3 _;have h4:=congrArg Array.size h3;simp[AH]at h4;omega
theorem Blk1.ne_row{c m:Nat}{r:Nat->Raw}{v:Value}(h:Blk1 W b v)(h2:RowB W c m r):b≠c:=by
 rintro rfl;unfold Blk1 at h;unfold RowB at h2;rw[h]at h2;injection h2 with h2;injection h2 with _ h3;exact absurd h3 (by decide)
end
def rowOk(n:Nat)(l:List Raw):Bool:=decide (l.length=n)&&allV l
def Dm(n:Nat)(l:List RowH):Bool:=l.all fun x=>rowOk n x.2.2
theorem Nh(n:Nat)(A:Option Addr)(cap:Nat)(l:List Raw)(nb:Nat)(w:World)(hE:Env w)(hn:Int1 w nb n)(hr:InRow w A l)(hl:l.length<=140737488355328)(hz:∀x∈l,Ei x):
 Calls prog 88 #[.slice A l.length cap,.pointer (some ⟨nb,0,none⟩)] w fun e w'=>e=.returned (.bool (!rowOk n l))/\Below w.heap.size w w':=by
 have kv:=DB A cap l w hE hr hl hz;have c1:=hn.cell;have c2:=hn.lt
 by_cases h:l.length=n
 .have e:(!rowOk n l)=!allV l:=by unfold rowOk;rw[zH h,xF]
  have h1:(!((l.length:Int)==(n:Int)))=false:=by rw[h];simp
  rw[e];generalize allV l=v at *;rw[<-h]at c1;replace h:=zh h;replace e:=zh e;go_enter func88,ntmps88
  go_wp2_with fail
  refine kv.q fun w1 hb=>?_;replace hb:=zh hb;go_wp2;go_ret;exact⟨rfl,hb.o⟩
 have e:(!rowOk n l)=true:=by unfold rowOk;rw[zD h,xw];rfl
 have h1:((l.length:Int)==(n:Int))=false:=by rw[zJ];omega
 have h2:((l.length:Int) != (n:Int))=true:=by rw[zj];omega
 have h3:(l.length==n)=false:=by rw[zJ];exact h
 have h4:¬l.length=n:=h;rw[e];clear kv e h;go_enter func88,ntmps88;go_wp2;go_ret;exact⟨rfl,zI _ _⟩
def Ke(n:Nat)(l:List RowH):Int:=if Dm n l then -1 else (l.findIdx fun x=>!rowOk n x.2.2:Nat)
theorem Uj{n:Nat}{l:List RowH}{k:Nat}(hk:k<l.length)(a:∀j (h:j<l.length),j<k->rowOk n l[j].2.2=true)(hb:rowOk n l[k].2.2=false):Ke n l=k:=by
 unfold Ke Dm
 have h1:(l.all fun x=>rowOk n x.2.2)=false:=by
  rw[wK];exact⟨l[k],zQ hk,by rw[hb];simp⟩
 rw[h1,zC (by simp)]
 congr 1
 rw[List.findIdx_eq hk];exact⟨by rw[hb];rfl,fun j hj=>by rw[a j (by omega) hj];rfl⟩
theorem Sg{n:Nat}{l:List RowH}(a:∀j (h:j<l.length),j<l.length->rowOk n l[j].2.2=true):Ke n l=-1:=by
 unfold Ke Dm;rw[zE];rw[xe];intro x hx;obtain⟨j,hj,rfl⟩:=zl hx;exact a j hj hj
theorem Uk(n:Nat)(l:List RowH):decide (0<=Ke n l)=!Dm n l:=by
 unfold Ke
 cases Dm n l
 .rw[zC (by simp)];simp
 rw[zE rfl];rfl
theorem Si(n:Nat)(A:Option Addr)(cap:Nat)(l:List RowH)(nb:Nat)(w:World)(hE:Env w)(hn:Int1 w nb n)(hr:InMat w A l)(hl:l.length<=140737488355328)(hz:∀x∈l,x.2.2.length<=140737488355328/\∀y∈x.2.2,Ei y):
 Calls prog 89 #[.slice A l.length cap,.func (.func 88) #[] #[.pointer (some ⟨nb,0,none⟩)]] w
  fun e w'=>e=.returned (.int .i64 (Ke n l))/\Below w.heap.size w w':=by
 have HF:=zh (fun(k:Nat) (hk:k<l.length) h1 h2=>Uj (n:=n) (l:=l) hk h1 h2);have HA:=zh (Sg (n:=n) (l:=l));generalize Ke n l=res at *;replace hE:=zh hE;replace hr:=zh hr;replace hz:=zh hz;replace hn:=zh hn;go_enter func89,ntmps89;go_wp2
 go_loopw [8] (fun i wr=>∃k:Nat,k<=l.length/\i=.int .i64 (k:Int)/\Hid (∀j (h:j<l.length),j<k->rowOk n l[j].2.2=true)/\Hid (Below w.heap.size w wr)) (fun i _=>l.length-(intOf i).toNat)
 case atStart=>exact⟨0,zO _,rfl,fun j _ h=>absurd h (by omega),zI _ _⟩
 case round=>
  obtain⟨k,hk,rfl,d,hB⟩:=hrel
  by_cases hlt:k<l.length
  .obtain ⟨b,off,rfl,hb,hc⟩:=(hr.o.below hB.o (zB _)) (by omega);obtain⟨c1,s⟩:=hc k hlt;clear hc;have hx:=hz.o l[k] (zQ hlt);have kv:=Nh n l[k].1 l[k].2.1 l[k].2.2 nb wr (hE.o.below hB.o) (hn.o.below hB.o) s hx.1 hx.2;have HK:=zh (HF.o k hlt d.o)
   have HL:Hid (rowOk n l[k].2.2=true->∀j (h:j<l.length),j<k+1->rowOk n l[j].2.2=true):=fun hv j h hj=>by
    by_cases e:j=k
    .subst e;exact hv
    exact d.o j h (by omega)
   generalize l[k]=x at *;obtain⟨xa,xc,xl⟩:=x;dsimp only at c1 kv HK HL;replace kv:=zh kv;have ab:=hx.1;dsimp only at ab;clear hx s
   cases hv:rowOk n xl with
   |true=>
    have HL2:=zh (HL.o hv);rw[hv]at kv;clear HL HK hv
    go_wp2_with fail
    refine kv.o.q fun w1 a=>?_;have aa:=hB.t a;clear a;go_wp2
    go_roundw
    case rel=>exact⟨k+1,by omega,by go_num,HL2,aa⟩
    case measure=>simp[intOf];omega
   |false=>
    have HK2:=zh (HK.o hv);rw[hv]at kv;clear HL HK hv
    go_wp2_with fail
    refine kv.o.q fun w1 a=>?_;have aa:=hB.t a;clear a;go_wp2;go_ret;exact⟨by rw[HK2.o];rfl,aa.o⟩
  obtain rfl:k=l.length:=by omega
  have HE:=zh (HA.o d.o);go_wp2;go_ret;exact⟨by rw[HE.o];rfl,hB.o⟩
theorem G9(n:Nat)(A:Option Addr)(cap:Nat)(l:List RowH)(nb:Nat)(w:World)(hE:Env w)(hn:Int1 w nb n)(hr:InMat w A l)(hl:l.length<=140737488355328)(hz:∀x∈l,x.2.2.length<=140737488355328/\∀y∈x.2.2,Ei y):
 Calls prog 87 #[.slice A l.length cap,.func (.func 88) #[] #[.pointer (some ⟨nb,0,none⟩)]] w
  fun e w'=>e=.returned (.bool (!Dm n l))/\Below w.heap.size w w':=by
 have hi:=Si n A cap l nb w hE hn hr hl hz;have hg:=Uk n l;generalize Ke n l=i at *;generalize (!Dm n l)=v at *;replace hn:=zh hn;replace hr:=zh hr;replace hz:=zh hz;go_enter func87,ntmps87
 go_wp2_with fail
 refine hi.q fun w1 hb=>?_;replace hb:=zh hb;go_wp2;go_ret;exact⟨rfl,hb.o⟩
theorem PS(k N cap b kb:Nat)(w:World)(h:k<N)(hk:Int1 w kb k)(hb:b<w.heap.size)
 (e1:w.cell? ⟨b,k*3,none⟩=some (.bool false))(e2:w.cell? ⟨b,k*3+1,none⟩=some (.string ⟨#[48]⟩))(e3:w.cell? ⟨b,k*3+2,none⟩=some (.string ⟨#[49]⟩)):
 Calls prog 90 #[.slice (some ⟨b,0,none⟩) N cap,.pointer (some ⟨kb,0,none⟩)] w fun e w'=>e=.returned (.bool false)/\Below w.heap.size w w':=by
 have c1:=hk.cell;have d:=zh hk.lt;have i0:(0:Int)<=(k:Int):=by omega
 have i1:(k:Int)<(N:Int):=by omega
 have hc:Hid (w.cell? ⟨kb,0,none⟩=some (.int .i64 (k:Int))/\w.cell? ⟨b,k*3,none⟩=some (.bool false)/\w.cell? ⟨b,k*3+1,none⟩=some (.string ⟨#[48]⟩)/\w.cell? ⟨b,k*3+2,none⟩=some (.string ⟨#[49]⟩)):=⟨c1,e1,e2,e3⟩;have kz:=zh Ii;replace hb:=zh hb;clear hk;go_enter func90,ntmps90
 go_wp2_with fail
 go_region_held3 (fun w'=>w'.cell? ⟨kb,0,none⟩=some (.int .i64 (k:Int))/\w'.cell? ⟨b,k*3,none⟩=some (.bool false)/\w'.cell? ⟨b,k*3+1,none⟩=some (.string ⟨#[48]⟩)/\w'.cell? ⟨b,k*3+2,none⟩=some (.string ⟨#[49]⟩)) (first|(with_reducible exact hc.o)|(exact⟨(a.o.cell (p:=⟨kb,0,none⟩) d.o).trans hc.o.1,(a.o.cell (p:=⟨b,k*3,none⟩) hb.o).trans hc.o.2.1,(a.o.cell (p:=⟨b,k*3+1,none⟩) hb.o).trans hc.o.2.2.1,(a.o.cell (p:=⟨b,k*3+2,none⟩) hb.o).trans hc.o.2.2.2⟩)|go_keep)
  (first
    |(go_at_call 91;refine(kz.o _).q fun w1 a=>?_;replace a:Hid (Below w.heap.size w.drew w1):=a))
 all_goals (
  go_wp2;go_ret;exact⟨rfl,(zI _ w).drew.trans a.o⟩
  )
theorem Ni(g:Bool)(x d:ByteArray)(k N cap b kb:Nat)(w:World)(s:k<N)(hk:Int1 w kb k)(hb:b<w.heap.size)
 (e1:w.cell? ⟨b,k*3,none⟩=some (.bool g))(e2:w.cell? ⟨b,k*3+1,none⟩=some (.string x))(e3:w.cell? ⟨b,k*3+2,none⟩=some (.string d))(hz:(x.toList==[48])=false):
 Calls prog 90 #[.slice (some ⟨b,0,none⟩) N cap,.pointer (some ⟨kb,0,none⟩)] w fun e w'=>e=.returned (.bool true)/\Below w.heap.size w w':=by
 have c1:=hk.cell;have h:=zh hk.lt;have i0:(0:Int)<=(k:Int):=by omega
 have i1:(k:Int)<(N:Int):=by omega
 have hc:Hid (w.cell? ⟨kb,0,none⟩=some (.int .i64 (k:Int))/\w.cell? ⟨b,k*3,none⟩=some (.bool g)/\w.cell? ⟨b,k*3+1,none⟩=some (.string x)/\w.cell? ⟨b,k*3+2,none⟩=some (.string d)):=⟨c1,e1,e2,e3⟩;have kz:=zh Ii;replace hb:=zh hb;clear hk;go_enter func90,ntmps90
 go_wp2_with fail
 go_region_held3 (fun w'=>w'.cell? ⟨kb,0,none⟩=some (.int .i64 (k:Int))/\w'.cell? ⟨b,k*3,none⟩=some (.bool g)/\w'.cell? ⟨b,k*3+1,none⟩=some (.string x)/\w'.cell? ⟨b,k*3+2,none⟩=some (.string d)) (first|(with_reducible exact hc.o)|(exact⟨(a.o.cell (p:=⟨kb,0,none⟩) h.o).trans hc.o.1,(a.o.cell (p:=⟨b,k*3,none⟩) hb.o).trans hc.o.2.1,(a.o.cell (p:=⟨b,k*3+1,none⟩) hb.o).trans hc.o.2.2.1,(a.o.cell (p:=⟨b,k*3+2,none⟩) hb.o).trans hc.o.2.2.2⟩)|go_keep)
  (first
    |(go_at_call 91;refine(kz.o _).q fun w1 a=>?_;replace a:Hid (Below w.heap.size w.drew w1):=a))
 all_goals (
  go_wp2;go_ret;exact⟨rfl,(zI _ w).drew.trans a.o⟩
  )
end Nt
end
section
open Go.RowKit Go.Shelf
namespace Nt
structure MatW(W:World)(B R n:Nat)(bl:Nat->Nat)(M:Mx):Prop where
 lt:R<W.heap.size
 hd:∀i,i<n->W.cell? ⟨R,i,none⟩=some (.slice (some ⟨bl i,0,none⟩) (n+1) (n+1))
 fr:∀i,W.frozen? ⟨R,i,none⟩=false
 rows:∀i,i<n->RowB W (bl i) (n+1) fun j=>rq (M i j)
 inj:∀i j,i<n->j<n->bl i=bl j->i=j
 ne:∀i,i<n->bl i≠R
 lowR:B<=R
 low:∀i,i<n->B<=bl i
section
variable {W W':World} {B R n:Nat} {bl:Nat->Nat} {M:Mx}
theorem MatW.below(h:MatW W B R n bl M)(hb:Below W.heap.size W W'):MatW W' B R n bl M :=
 ⟨zL h.lt hb.size,fun i hi=>(hb.cell (p:=⟨R,i,none⟩) h.lt).trans (h.hd i hi),fun i=>(hb.frozen (p:=⟨R,i,none⟩) h.lt).trans (h.fr i),
  fun i hi=>(h.rows i hi).below hb (h.rows i hi).lt,h.inj,h.ne,h.lowR,h.low⟩
theorem MatW.alloc(h:MatW W B R n bl M)(o:Obj):MatW (W.alloc o) B R n bl M:=h.below ((zI _ W).alloc (zB _) o)
theorem MatW.drew(h:MatW W B R n bl M):MatW W.drew B R n bl M:=⟨h.lt,h.hd,h.fr,h.rows,h.inj,h.ne,h.lowR,h.low⟩
theorem MatW.change(h:MatW W B R n bl M){k:Nat}(hk:k<n)(hg:W.grownBy W' (some (bl k))){M':Mx}(hr:RowB W' (bl k) (n+1) fun j=>rq (M' k j))(he:∀i,i<n->i≠k->M' i=M i):MatW W' B R n bl M':=by
 have hR:some R≠some (bl k):=fun e=>h.ne k hk (Option.some.inj e).symm;have hb:=hg.block R h.lt hR;refine⟨zL h.lt hg.size,fun i hi=>(zR (a:=⟨R,i,none⟩) hb).trans (h.hd i hi),fun i=>(zu (a:=⟨R,i,none⟩) hb).trans (h.fr i),fun i hi=>?_,h.inj,h.ne,h.lowR,h.low⟩
 by_cases e:i=k
 .rw[e];exact hr
 rw[he i hi e];exact(h.rows i hi).grown hg fun e2=>e (h.inj i k hi hk (Option.some.inj e2))
def GX(k p:Nat)(bl:Nat->Nat):Nat->Nat:=fun i=>if i=k then bl p else if i=p then bl k else bl i
theorem MatW.swap(h:MatW W B R n bl M){k p:Nat}(hk:k<n)(hp:p<n):
 MatW ((W.setCell ⟨R,k,none⟩ (.slice (some ⟨bl p,0,none⟩) (n+1) (n+1))).setCell ⟨R,p,none⟩ (.slice (some ⟨bl k,0,none⟩) (n+1) (n+1))) B R n (GX k p bl) (AU k p M):=by
 have far:∀i,i<n->∀x y v u,RowB ((W.setCell ⟨R,x,none⟩ v).setCell ⟨R,y,none⟩ u) (bl i) (n+1) fun j=>rq (M i j):=fun i hi x y v u=>((h.rows i hi).far (p:=⟨R,x,none⟩) (h.ne i hi) v).far (p:=⟨R,y,none⟩) (h.ne i hi) u;refine⟨by simpa using h.lt,fun i hi=>?_,fun i=>by simpa using h.fr i,fun i hi=>?_,fun i j hi hj e=>?_,fun i hi=>?_,h.lowR,fun i hi=>?_⟩
 .unfold GX
  have c1:(W.setCell ⟨R,k,none⟩ (.slice (some ⟨bl p,0,none⟩) (n+1) (n+1))).cell? ⟨R,i,none⟩=if i=k then some (.slice (some ⟨bl p,0,none⟩) (n+1) (n+1)) else some (.slice (some ⟨bl i,0,none⟩) (n+1) (n+1)):=by
   by_cases e:i=k
   .rw[zE e,e];exact zr W _ _ (h.hd k hk)
   rw[zC e,zZ _ _ _ _ (by intro e2;injection e2 with _ e3;first|exact e e3|exact e e3.symm)];exact h.hd i hi
  by_cases e:i=p
  .subst e
   have:((W.setCell ⟨R,k,none⟩ (.slice (some ⟨bl i,0,none⟩) (n+1) (n+1))).setCell ⟨R,i,none⟩ (.slice (some ⟨bl k,0,none⟩) (n+1) (n+1))).cell? ⟨R,i,none⟩=some (.slice (some ⟨bl k,0,none⟩) (n+1) (n+1)) :=
    zr _ _ _ (by rw[c1];split<;>rfl)
   rw[this]
   by_cases e2:i=k
   .rw[zE e2,e2]
   rw[zC e2,zE rfl]
  rw[zZ _ _ _ _ (by intro e2;injection e2 with _ e3;first|exact e e3|exact e e3.symm),c1]
  by_cases e2:i=k
  .rw[zE e2,zE e2]
  rw[zC e2,zC e2,zC e]
 .unfold GX AU
  by_cases e1:i=k
  .simp only[zE e1];exact far p hp _ _ _ _
  by_cases e2:i=p
  .simp only[zC e1,zE e2];exact far k hk _ _ _ _
  simp only[zC e1,zC e2];exact far i hi _ _ _ _
 .unfold GX at e
  by_cases a1:i=k
  .rw[zE a1]at e
   by_cases b1:j=k
   .omega
   rw[zC b1]at e
   by_cases b2:j=p
   .rw[zE b2]at e;have:=h.inj p k hp hk e;omega
   rw[zC b2]at e;have:=h.inj p j hp hj e;omega
  rw[zC a1]at e
  by_cases a2:i=p
  .rw[zE a2]at e
   by_cases b1:j=k
   .rw[zE b1]at e;have:=h.inj k p hk hp e;omega
   rw[zC b1]at e
   by_cases b2:j=p
   .omega
   rw[zC b2]at e;have:=h.inj k j hk hj e;omega
  rw[zC a2]at e
  by_cases b1:j=k
  .rw[zE b1]at e;have:=h.inj i p hi hp e;omega
  rw[zC b1]at e
  by_cases b2:j=p
  .rw[zE b2]at e;have:=h.inj i k hi hk e;omega
  rw[zC b2]at e;exact h.inj i j hi hj e
 .unfold GX
  split
  .exact h.ne p hp
  split
  .exact h.ne k hk
  exact h.ne i hi
 unfold GX
 split
 .exact h.low p hp
 split
 .exact h.low k hk
 exact h.low i hi
end
theorem rq_zero:rq 0=(false,⟨#[48]⟩,⟨#[49]⟩):=by
 have h1:rq 0=(false,T (some 0),T (some 1)):=rfl;rw[h1,R7,UP]
theorem Nj{q:Rat}(h:q≠0):((rq q).2.1.toList==[48])=false:=by
 show ((T (some q.num.natAbs)).toList==[48])=false
 rw[AM];have:=BR h;exact zD (by omega)
def IQ(n k:Nat)(M:Mx):Int:=match Dd n k M (n-k) with|some p=>((p-k:Nat):Int)|none=>-1
theorem Ul{n k i:Nat}{M:Mx}(hi:k+i<n)(h0:M (k+i) k≠0)(a:∀j,j<i->M (k+j) k=0):IQ n k M=i:=by
 unfold IQ
 rw [FQ (p:=k+i) (by omega) (by omega) hi h0 fun j h1 h2=>by
  have:=a (j-k) (by omega)
  rwa [show k+(j-k)=j by omega]at this]
 show ((k+i-k:Nat):Int)=i
 rw[Nat.add_sub_cancel_left]
theorem Um{n k:Nat}{M:Mx}(a:∀j,j<n-k->M (k+j) k=0):IQ n k M=-1:=by
 unfold IQ
 rw [Ll (by omega) fun j h1 h2=>by
  have:=a (j-k) (by omega)
  rwa [show k+(j-k)=j by omega]at this]
theorem Sj(B R n k capR kb:Nat)(bl:Nat->Nat)(M:Mx)(w:World)(hk:k<n)(hn:n<=1000)(hM:MatW w B R n bl M)(ae:Int1 w kb k):
 Calls prog 89 #[.slice (some ⟨R,k,none⟩) (n-k) capR,.func (.func 90) #[] #[.pointer (some ⟨kb,0,none⟩)]] w
  fun e w'=>e=.returned (.int .i64 (IQ n k M))/\Below w.heap.size w w':=by
 have HF:=zh (fun(i:Nat) (hi:k+i<n) h0 h1=>Ul (n:=n) (k:=k) (i:=i) (M:=M) hi h0 h1);have HA:=zh (Um (n:=n) (k:=k) (M:=M));generalize IQ n k M=res at *;replace hM:=zh hM;replace ae:=zh ae;obtain⟨m,hm⟩:∃m,m=n-k:=⟨_,rfl⟩;rw[<-hm]at HA ⊢;have HM:Hid (k+m=n):=by show k+m=n;omega
 have aj:m<=1000:=by omega
 clear hm hn;go_enter func89,ntmps89;go_wp2
 go_loopw [8] (fun i wr=>∃y:Nat,y<=m/\i=.int .i64 (y:Int)/\Hid (∀j,j<y->M (k+j) k=0)/\Hid (Below w.heap.size w wr)) (fun i _=>m-(intOf i).toNat)
 case atStart=>exact⟨0,zO _,rfl,fun j h=>absurd h (by omega),zI _ _⟩
 case round=>
  obtain⟨i,hi,rfl,aa,hB⟩:=hrel
  by_cases hlt:i<m
  .have af:k+i<n:=by have:=HM.o;omega
   have d:=hM.o.below hB.o;have ab:=ae.o.below hB.o;have c1:=d.hd (k+i) af;have ai:=d.lt;have a:=d.rows (k+i) af;obtain⟨e1,e2,e3⟩:=a.cell (j:=k) (by omega);have ah:=a.lt
   by_cases h0:M (k+i) k=0
   .rw [h0,rq_zero]at e1 e2 e3;have kc:=zh (PS k (n+1) (n+1) (bl (k+i)) kb wr (by omega) ab ah e1 e2 e3)
    have ag:Hid (∀j,j<i+1->M (k+j) k=0):=fun j hj=>by
     by_cases e:j=i
     .rw[e];exact h0
     exact aa.o j (by omega)
    clear e1 e2 e3 h0 a d ab
    go_wp2_with fail
    refine kc.o.q fun w1 s=>?_;have ad:=hB.t s;clear s;go_wp2
    go_roundw
    case rel=>exact⟨i+1,by omega,by go_num,ag,ad⟩
    case measure=>simp[intOf];omega
   have hz:=Nj h0;have kc:=zh (Ni _ _ _ k (n+1) (n+1) (bl (k+i)) kb wr (by omega) ab ah e1 e2 e3 hz);have HE:=zh (HF.o i af h0 aa.o);clear e1 e2 e3 h0 a d ab hz
   go_wp2_with fail
   refine kc.o.q fun w1 s=>?_;have ad:=hB.t s;clear s;go_wp2;go_ret;exact⟨by rw[HE.o];rfl,ad.o⟩
  obtain rfl:i=m:=by omega
  have HE:=zh (HA.o aa.o);go_wp2;go_ret;exact⟨by rw[HE.o];rfl,hB.o⟩
end Nt
end
section
open Go.RowKit Go.Shelf
namespace Nt
structure SysIn(w:World)(Aa Ab:Option Addr)(la:List RowH)(lb:List Raw):Prop where
 ma:InMat w Aa la
 mb:InRow w Ab lb
 na:la.length<=140737488355328
 nb:lb.length<=140737488355328
 za:∀x∈la,x.2.2.length<=140737488355328/\∀y∈x.2.2,Ei y
 zb:∀x∈lb,Ei x
theorem SysIn.below{w w':World}{Aa Ab:Option Addr}{la:List RowH}{lb:List Raw}(h:SysIn w Aa Ab la lb)(hb:Below w.heap.size w w'):SysIn w' Aa Ab la lb :=
 ⟨h.ma.below hb (zB _),h.mb.below hb (zB _),h.na,h.nb,h.za,h.zb⟩
abbrev nW(w:World)(n:Nat):World:=w.alloc (.cells #[.int .i64 (n:Int)] 3)
theorem BN(w:World)(n:Nat):Below w.heap.size w (nW w n):=Bb _ _
theorem PT(Aa Ab:Option Addr)(ca cb:Nat)(la:List RowH)(lb:List Raw)(w:World)(h:la.length≠lb.length)(hs:SysIn w Aa Ab la lb):
 Calls prog 45 #[.slice Aa la.length ca,.slice Ab lb.length cb] w fun e w'=>e=.returned (.tuple #[.slice none 0 0,.int .i64 1])/\Below w.heap.size w w':=by
 have h1:((la.length:Int)==(lb.length:Int))=false:=by rw[zJ];omega
 have h2:((la.length:Int) != (lb.length:Int))=true:=by rw[zj];omega
 have h3:(la.length==lb.length)=false:=by rw[zJ];exact h
 have h4:¬la.length=lb.length:=h;have n1:=hs.na;have n2:=hs.nb;clear h;replace hs:=zh hs;go_enter func45,ntmps45;go_wp2;go_ret2;exact⟨rfl,BN _ _⟩
theorem Sk(Aa Ab:Option Addr)(ca cb:Nat)(la:List RowH)(lb:List Raw)(w:World)(hE:Env w)(h:la.length=lb.length)(hs:SysIn w Aa Ab la lb)(hv:allV lb=false):
 Calls prog 45 #[.slice Aa la.length ca,.slice Ab lb.length cb] w fun e w'=>e=.returned (.tuple #[.slice none 0 0,.int .i64 1])/\Below w.heap.size w w':=by
 have n2:=hs.nb;rw[h];have kv:=DB Ab cb lb (nW w lb.length) (hE.below (BN _ _)) (hs.below (BN _ _)).mb hs.nb hs.zb;rw[hv]at kv;replace kv:=zh kv;clear h hs hv hE;go_enter func45,ntmps45
 go_wp2_with fail
 refine kv.o.q fun w1 hb=>?_;have hB:=zh ((BN w lb.length).trans (hb.mono (by simp)));clear hb;go_wp2;go_ret2;exact⟨rfl,hB.o⟩
theorem Sm(Aa Ab:Option Addr)(ca cb:Nat)(la:List RowH)(lb:List Raw)(w:World)(hE:Env w)(h:la.length=lb.length)(hs:SysIn w Aa Ab la lb)(hv:allV lb=true)(hm:Dm lb.length la=false):
 Calls prog 45 #[.slice Aa la.length ca,.slice Ab lb.length cb] w fun e w'=>e=.returned (.tuple #[.slice none 0 0,.int .i64 1])/\Below w.heap.size w w':=by
 have n2:=hs.nb;have kv:=DB Ab cb lb (nW w lb.length) (hE.below (BN _ _)) (hs.below (BN _ _)).mb hs.nb hs.zb;have ka:=fun W (h1:Env W) (h2:Int1 W w.heap.size lb.length) (h3:SysIn W Aa Ab la lb)=>G9 lb.length Aa ca la w.heap.size W h1 h2 h3.ma h3.na h3.za;rw[hv]at kv;rw[hm,h]at ka;rw[h];replace kv:=zh kv;replace ka:=zh ka;replace hs:=zh hs;replace hE:=zh hE;clear h hv hm;go_enter func45,ntmps45
 go_wp2_with fail
 refine kv.o.q fun w1 hb=>?_;have hB:=zh ((BN w lb.length).trans (hb.mono (by simp)));have hn:=zh ((Int1.new w lb.length).below hb);clear hb
 go_wp2_with fail
 refine(ka.o _ (hE.o.below hB.o) hn.o (hs.o.below hB.o)).q fun w2 hb=>?_;have a:=hB.t hb;clear hb;go_wp2;go_ret2;exact⟨rfl,a.o⟩
theorem PU(Aa Ab:Option Addr)(ca cb:Nat)(la:List RowH)(lb:List Raw)(w:World)(hE:Env w)(h:la.length=lb.length)(hs:SysIn w Aa Ab la lb)(hv:allV lb=true)(hm:Dm lb.length la=true)(s:8<lb.length):
 Calls prog 45 #[.slice Aa la.length ca,.slice Ab lb.length cb] w fun e w'=>e=.returned (.tuple #[.slice none 0 0,.int .i64 2])/\Below w.heap.size w w':=by
 have n2:=hs.nb;have kv:=DB Ab cb lb (nW w lb.length) (hE.below (BN _ _)) (hs.below (BN _ _)).mb hs.nb hs.zb;have ka:=fun W (h1:Env W) (h2:Int1 W w.heap.size lb.length) (h3:SysIn W Aa Ab la lb)=>G9 lb.length Aa ca la w.heap.size W h1 h2 h3.ma h3.na h3.za;rw[hv]at kv;rw[hm,h]at ka;rw[h];replace kv:=zh kv;replace ka:=zh ka;replace hs:=zh hs;replace hE:=zh hE;clear h hv hm;go_enter func45,ntmps45
 go_wp2_with fail
 refine kv.o.q fun w1 hb=>?_;have hB:=zh ((BN w lb.length).trans (hb.mono (by simp)));have hn:=zh ((Int1.new w lb.length).below hb);clear hb
 go_wp2_with fail
 refine(ka.o _ (hE.o.below hB.o) hn.o (hs.o.below hB.o)).q fun w2 hb=>?_;have d:=hB.t hb;have a:=hn.o.below hb;have c1:=a.cell;have c2:=a.lt;clear hb;go_wp2;go_ret2;exact⟨rfl,d.o⟩
end Nt
end
end Go.Proofs.YtmfjbpcecpgchaaGreatDoor

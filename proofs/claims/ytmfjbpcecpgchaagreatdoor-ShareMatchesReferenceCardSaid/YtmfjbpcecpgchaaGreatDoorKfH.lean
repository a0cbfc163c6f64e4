/- Parts of the proof. -/
import Derived.Test.YtmfjbpcecpgchaaGreatDoorKfG
set_option maxHeartbeats 16000000
set_option maxRecDepth 1000000
open Go.Proofs.Tryz
namespace Go.Proofs.YtmfjbpcecpgchaaGreatDoor
theorem tkfH{P:Program}{md:Region.Mode}{ops:Array Oper}{Q:Exit->Act->World->Prop}{S:World->Prop}{oi:Oper}{v:Value}{fuel:Nat}{listed:Array Bool}{a:Act}{w:World}(i:Nat)(hi:ops[i]?=some oi)(hS:S w)(hy:YieldsIf P ops S oi v a)(h:wpAnyH P md ops Q S fuel (listed.setIfInBounds i true) (a.put oi.dst v) w)(hs:Region.noSelect ops=true:=by kernel_rfl)(hf:Region.free md ops listed i=true:=by kernel_rfl)(hr:(Region.ready md ops listed).contains i=true:=by kernel_rfl)(hQ:∀c a w,Q (.panic c) (a.put oi.dst v) w->Q (.panic c) a w:=by exact fun _ _ _ h=>h):wpAnyH P md ops Q S (fuel+1) listed a w:=yp hi hs hf hr hQ hy hS h
section
open Go.RowKit Go.Shelf
namespace Nt
def Ew(A:List (List Raw))(b:List Raw):Bool:=decide (A.length=b.length)&&(Ik b.length A&&allV b)
theorem QG{A:List (List Raw)}{b:List Raw}{i:Nat}(h1:i<A.length)(h2:i<b.length)(h:rowOk b.length A[i]=false\/Cr b[i]=false):Ew A b=false:=by
 unfold Ew
 have:(Ik b.length A&&allV b)=false:=by
  rw[Bool.and_eq_false_iff]
  rcases h with h|h
  .left;unfold Ik;rw[wK];exact⟨A[i],zQ h1,by rw[h];simp⟩
  right;unfold allV;rw[wK];exact⟨b[i],zQ h2,by rw[h];simp⟩
 rw[this];simp
theorem Oj{A:List (List Raw)}{b:List Raw}(h1:A.length=b.length)(h:∀i (hi:i<A.length) (hj:i<b.length),rowOk b.length A[i]=true/\Cr b[i]=true):Ew A b=true:=by
 unfold Ew;rw[zH h1]
 have a:Ik b.length A=true:=by
  unfold Ik;rw[xe];intro x hx;obtain⟨i,hi,rfl⟩:=zl hx;exact(h i hi (by omega)).1
 have c:allV b=true:=Cs.2 fun i hi=>(h i (by omega) hi).2;rw[a,c];rfl
theorem ID(x:Raw)(hz:Ei x)(w:World):Calls prog 33 #[Im x] w fun e w'=>e=.returned (.bool (Cr x))/\Below w.heap.size w w' :=
 Dj x.1 x.2.1 x.2.2 w hz.1 hz.2
theorem Mf(g:Bool)(n d:ByteArray)(w:World):
 Calls prog 107 #[.agg #[.bool g,.string n,.string d]] w fun e w'=>e=.returned (.bool (n.toList==[48]))/\Below w.heap.size w w':=by
 go_enter func107,ntmps107;go_wp2;go_ret;exact⟨rfl,Bb _ _⟩
theorem JK(q:Rat)(w:World):
 Calls prog 107 #[qv q] w fun e w'=>e=.returned (.bool (decide (q=0)))/\Below w.heap.size w w':=by
 have h:=Mf (rq q).1 (rq q).2.1 (rq q).2.2 w
 by_cases e:q=0
 .subst e;rw[zH rfl];have e1:((rq 0).2.1.toList==[48])=true:=AM 0;rw[e1]at h;exact h
 rw[zD e];rw[Nj e]at h;exact h
theorem K8(Aa Ab:Option Addr)(ca cb:Nat)(la:List RowH)(lb:List Raw)(w:World)(hs:SysIn w Aa Ab la lb):
 Calls prog 106 #[.slice Aa la.length ca,.slice Ab lb.length cb] w fun e w'=>e=.returned (.bool (Ew (AJ la) lb))/\Below w.heap.size w w':=by
 have nb:=hs.nb;have na:=hs.na
 by_cases hl:la.length=lb.length
 .obtain ⟨n,hn⟩:∃n,n=lb.length:=⟨_,rfl⟩
  have HG:Hid ((∀i (hi:i<la.length) (hj:i<lb.length),rowOk n la[i].2.2=true/\Cr lb[i]=true)->Ew (AJ la) lb=true):=fun h=>Oj (by rw[AD];exact hl) fun i hi hj=>by
   rw[AD]at hi;rw[CW la i hi,<-hn];exact h i hi hj
  have HB:Hid (∀i (hi:i<la.length) (hj:i<lb.length),(rowOk n la[i].2.2=false\/Cr lb[i]=false)->Ew (AJ la) lb=false):=fun i hi hj h=>QG (i:=i) (by rw[AD];exact hi) hj (by rw[CW la i hi,<-hn];exact h);have hA:=zh hs.ma;have hB:=zh hs.mb;have aD:=zh hs.za;have aE:=zh hs.zb;generalize Ew (AJ la) lb=res at *;clear hs na;rw[hl,<-hn];rw[<-hn]at nb;have aB:Hid (la.length=n):=by show la.length=n;omega
  have aw:Hid (lb.length=n):=hn.symm;clear hl hn;go_enter func106,ntmps106;have hb:=zh (zI w.heap.size w);go_wp2
  go_loopw [5] (fun i wr=>∃y:Nat,y<=n/\i=.int .i64 (y:Int)/\Hid (Below w.heap.size w wr)/\Hid (∀i (hi:i<la.length) (hj:i<lb.length),i<y->rowOk n la[i].2.2=true/\Cr lb[i]=true)) (fun i _=>n-(intOf i).toNat)
  case atStart=>exact⟨0,zO _,rfl,hb,fun i _ _ h=>absurd h (by omega)⟩
  case round=>
   obtain⟨y,hy,rfl,a,hI⟩:=hrel
   by_cases hlt:y<n
   .have an:y<la.length:=by rw[aB.o];exact hlt
    have ao:y<lb.length:=by rw[aw.o];exact hlt
    obtain⟨ba,oa,rfl,al,av⟩:=hA.o (by omega);obtain⟨c1,hr⟩:=av y an;obtain⟨bb,ob,rfl,am,f1,f2,f3⟩:=hB.o.at ao;have ah:=aD.o la[y] (zQ an);have kv:=ID lb[y] (aE.o _ (zQ ao));have HBy:=HB.o y an ao
    have HIy:Hid (rowOk n la[y].2.2=true->Cr lb[y]=true->∀i (hi:i<la.length) (hj:i<lb.length),i<y+1->rowOk n la[i].2.2=true/\Cr lb[i]=true):=fun h1 h2 i hi hj h3=>by
     by_cases e:i=y
     .subst e;exact⟨h1,h2⟩
     exact hI.o i hi hj (by omega)
    obtain⟨ra,ax⟩:∃x,x=la[y]:=⟨_,rfl⟩;obtain⟨rb,ae⟩:∃x,x=lb[y]:=⟨_,rfl⟩;rw[<-ax]at c1 hr ah HBy HIy;rw[<-ae]at f1 f2 f3 kv HBy HIy;obtain⟨ra,rc,rl⟩:=ra;obtain⟨g,nn,dd⟩:=rb;replace c1:wr.cell? ⟨ba,oa+y,none⟩=some (.slice ra rl.length rc):=(a.o.cell (p:=⟨ba,oa+y,none⟩) al).trans c1;replace f1:wr.cell? ⟨bb,ob+y*3,none⟩=some (.bool g):=(a.o.cell (p:=⟨bb,_,none⟩) am).trans f1;replace f2:wr.cell? ⟨bb,ob+y*3+1,none⟩=some (.string nn):=(a.o.cell (p:=⟨bb,_,none⟩) am).trans f2;replace f3:wr.cell? ⟨bb,ob+y*3+2,none⟩=some (.string dd):=(a.o.cell (p:=⟨bb,_,none⟩) am).trans f3;replace HBy:Hid ((rowOk n rl=false\/Cr (g,nn,dd)=false)->res=false):=HBy;replace kv:Hid (∀W,Calls prog 33 #[.agg #[.bool g,.string nn,.string dd]] W fun e w'=>e=.returned (.bool (Cr (g,nn,dd)))/\Below W.heap.size W w'):=kv;replace hr:Hid (InRow w ra rl):=hr;have aF:rl.length<=140737488355328:=ah.1;have aC:Hid (∀x∈rl,Ei x):=ah.2;have i0:(0:Int)<=(y:Int):=by omega
    have i1:(y:Int)<(n:Int):=by omega
    clear ax ae av ah hI HB HG
    by_cases hrl:rl.length=n
    .rw [hrl]at c1;generalize ay:Cr (g,nn,dd)=vv at *;replace ay:=zh ay
     cases vv
     .have d:=zh (HBy.o (.inr rfl))
      go_wp2_with fail
      refine(kv.o _).q fun w2 ab=>?_;have s:=a.t ab;clear ab;go_wp2;go_ret;exact⟨by rw[d.o];rfl,s.o⟩
     go_wp2_with fail
     refine(kv.o _).q fun w2 ab=>?_;have s:=a.t ab;have c2:=(ab.cell (p:=⟨ba,oa+y,none⟩) (zL al a.o.size)).trans c1;clear ab c1 f1 f2 f3;go_wp2
     go_loopw [6] (fun j wz=>∃z:Nat,z<=n/\j=.int .i64 (z:Int)/\Hid (Below w2.heap.size w2 wz)/\Hid (∀j (hj:j<rl.length),j<z->Cr rl[j]=true)) (fun j _=>n-(intOf j).toNat)
     case atStart=>exact⟨0,zO _,rfl,zI _ _,fun j _ h=>absurd h (by omega)⟩
     case round=>
      obtain⟨z,hz,rfl,aa,hJ⟩:=hrel;have c3:=(aa.o.cell (p:=⟨ba,oa+y,none⟩) (zL al s.o.size)).trans c2
      by_cases hlz:z<n
      .have aq:z<rl.length:=by omega
       obtain⟨bx,ox,rfl,au,f1,f2,f3⟩:=hr.o.at aq;have kw:=ID rl[z] (aC.o _ (zQ aq))
       have aj:Hid (Cr rl[z]=false->rowOk n rl=false):=fun h=>by
        unfold rowOk;have:allV rl=false:=by unfold allV;rw[wK];exact⟨rl[z],zQ aq,by rw[h];simp⟩
        rw[this];simp
       have ar:Hid (Cr rl[z]=true->∀j (hj:j<rl.length),j<z+1->Cr rl[j]=true):=fun h j hj h3=>by
        by_cases e:j=z
        .subst e;exact h
        exact hJ.o j hj (by omega)
       obtain⟨rb,ae⟩:∃x,x=rl[z]:=⟨_,rfl⟩;rw[<-ae]at f1 f2 f3 kw aj ar;obtain⟨g2,ai,af⟩:=rb;have q:∀o,wr.cell? ⟨bx,o,none⟩=w.cell? ⟨bx,o,none⟩:=fun o=>(aa.o.cell (p:=⟨bx,o,none⟩) (zL au s.o.size)).trans (s.o.cell (p:=⟨bx,o,none⟩) au);replace f1:wr.cell? ⟨bx,ox+z*3,none⟩=some (.bool g2):=(q _).trans f1;replace f2:wr.cell? ⟨bx,ox+z*3+1,none⟩=some (.string ai):=(q _).trans f2;replace f3:wr.cell? ⟨bx,ox+z*3+2,none⟩=some (.string af):=(q _).trans f3;replace kw:Hid (∀W,Calls prog 33 #[.agg #[.bool g2,.string ai,.string af]] W fun e w'=>e=.returned (.bool (Cr (g2,ai,af)))/\Below W.heap.size W w'):=kw;have j0:(0:Int)<=(z:Int):=by omega
       have j1:(z:Int)<(n:Int):=by omega
       clear ae q hJ c2;have ag:=zh (s.o.trans (aa.o.mono s.o.size));generalize Cr (g2,ai,af)=v2 at *
       cases v2
       .have d:=zh (HBy.o (.inl (aj.o rfl)))
        go_wp2_with fail
        refine(kw.o _).q fun w3 ad=>?_;have ak:=ag.t ad;clear ad;go_wp2;go_ret;exact⟨by rw[d.o];rfl,ak.o⟩
       have aA:=zh (ar.o rfl)
       go_wp2_with fail
       refine(kw.o _).q fun w3 ad=>?_;have ak:=aa.t ad;clear ad;go_wp2
       go_roundw
       case rel=>exact⟨z+1,by omega,by go_num,ak,aA⟩
       case measure=>simp[intOf];omega
      obtain rfl:z=n:=by omega
      have az:=zh (HIy.o (GA.2 ⟨hrl,Cs.2 fun j hj=>hJ.o j hj (by omega)⟩) (by trivial));have ag:=zh (s.o.trans (aa.o.mono s.o.size));clear c2 hJ;go_wp2
      go_roundw
      case rel=>exact⟨y+1,by omega,by go_num,ag,az⟩
      case measure=>simp[intOf];omega
    have t1:((rl.length:Int)==(n:Int))=false:=by rw[zJ];omega
    have t2:((rl.length:Int) != (n:Int))=true:=by rw[zj];omega
    have t3:(rl.length==n)=false:=by rw[zJ];exact hrl
    have d:=zh (HBy.o (.inl (by unfold rowOk;simp[hrl])));go_wp2;go_ret;exact⟨by rw[d.o];rfl,a.o⟩
   obtain rfl:y=n:=by omega
   have d:=zh (HG.o fun i hi hj=>hI.o i hi hj (by rw[<-aw.o];exact hj));go_wp2;go_ret;exact⟨by rw[d.o];rfl,a.o⟩
 have hr:Hid (Ew (AJ la) lb=false):=by unfold Hid Ew;rw[AD,zD hl];simp
 have t1:((la.length:Int)==(lb.length:Int))=false:=by rw[zJ];omega
 have t2:((la.length:Int) != (lb.length:Int))=true:=by rw[zj];omega
 have t3:(la.length==lb.length)=false:=by rw[zJ];exact hl
 have t4:¬la.length=lb.length:=hl;clear hs hl;go_enter func106,ntmps106;go_wp2;go_ret;exact⟨by rw[hr.o];rfl,zI _ _⟩
structure MatV(W:World)(B R n m:Nat)(v:Nat->Value)(M:Mx):Prop where
 lt:R<W.heap.size
 ex:∀i,i<n->∃u,W.cell? ⟨R,i,none⟩=some u
 hd:∀i,i<m->W.cell? ⟨R,i,none⟩=some (v i)
 fr:∀i,W.frozen? ⟨R,i,none⟩=false
 rows:∀i,i<m->W.ownsRow B 34 3 (v i) (n+1) (AN (n+1) fun j=>rq (M i j))
 apart:∀i j,i<m->j<m->i≠j->Apart (v i) (v j)
 ne:∀i,i<m->(v i).ownBlock≠some R
 lowR:B<=R
def IU(i j:Nat)(q:Rat)(M:Mx):Mx:=fun a b=>if a=i/\b=j then q else M a b
def IE(k p:Nat)(v:Nat->Value):Nat->Value:=fun i=>if i=k then v p else if i=p then v k else v i
section
variable {W W':World} {B R n m:Nat} {v:Nat->Value} {M:Mx}
theorem MatV.below(h:MatV W B R n m v M)(hb:Below W.heap.size W W'):MatV W' B R n m v M :=
 ⟨zL h.lt hb.size,fun i hi=>by obtain⟨u,hu⟩:=h.ex i hi;exact⟨u,(hb.cell (p:=⟨R,i,none⟩) h.lt).trans hu⟩,fun i hi=>(hb.cell (p:=⟨R,i,none⟩) h.lt).trans (h.hd i hi),fun i=>(hb.frozen (p:=⟨R,i,none⟩) h.lt).trans (h.fr i),
  fun i hi=>D0 (h.rows i hi) hb,h.apart,h.ne,h.lowR⟩
theorem MatV.alloc(h:MatV W B R n m v M)(o:Obj):MatV (W.alloc o) B R n m v M:=h.below ((zI _ W).alloc (zB _) o)
theorem MatV.drew(h:MatV W B R n m v M):MatV W.drew B R n m v M:=h.below (zI _ W).drew
theorem MatV.drewN(h:MatV W B R n m v M)(q:Nat):MatV (W.drewN q) B R n m v M:=h.below (Bn (zI _ W) q)
theorem MatV.congr(h:MatV W B R n m v M){M':Mx}(e:∀i j,i<m->j<=n->M i j=M' i j):MatV W B R n m v M' :=
 ⟨h.lt,h.ex,h.hd,h.fr,fun i hi=>by
   have:=h.rows i hi
   rwa [D9 (s:=fun j=>rq (M' i j)) fun j hj=>by rw[e i j hi (by omega)]]at this,h.apart,h.ne,h.lowR⟩
theorem MatV.far(h:MatV W B R n m v M){g o:Nat}(hR:g≠R)(hg:∀i,i<m->(v i).ownBlock≠some g)(u:Value):MatV (W.setCell ⟨g,o,none⟩ u) B R n m v M:=by
 have hc:∀i,(W.setCell ⟨g,o,none⟩ u).cell? ⟨R,i,none⟩=W.cell? ⟨R,i,none⟩:=fun i=>zZ _ _ _ _ (by intro e;injection e with e1;first|exact hR e1|exact hR e1.symm);exact⟨by simpa using h.lt,fun i hi=>by rw[hc];exact h.ex i hi,fun i hi=>by rw[hc];exact h.hd i hi,fun i=>by simpa using h.fr i,fun i hi=>DT (h.rows i hi) (hg i hi),h.apart,h.ne,h.lowR⟩
theorem MatV.form(h:MatV W B R n m v M){i:Nat}(hi:i<m):∃g cap,v i=.slice (some ⟨g,0,none⟩) (n+1) cap/\B<=g/\g<W.heap.size/\g≠R/\(∀j,W.frozen? ⟨g,j,none⟩=false) /\
 ∀j,j<=n->W.cell? ⟨g,j*3,none⟩=some (.bool (rq (M i j)).1)/\W.cell? ⟨g,j*3+1,none⟩=some (.string (rq (M i j)).2.1)/\W.cell? ⟨g,j*3+2,none⟩=some (.string (rq (M i j)).2.2):=by
 obtain⟨g,cap,e,h1,h2,h3,h4⟩:=Cu (h.rows i hi) (by omega);refine⟨g,cap,e,h1,h2,fun eR=>h.ne i hi (by rw[e,eR];rfl),h3,fun j hj=>⟨h4 _ _ ?_,h4 _ _ ?_,h4 _ _ ?_⟩⟩
 .exact Ch _ (by omega) 0 (by omega)
 .exact Ch _ (by omega) 1 (by omega)
 exact Ch _ (by omega) 2 (by omega)
theorem MatV.store(h:MatV W B R n m v M){i j g cap:Nat}(hi:i<m)(hj:j<=n)(e:v i=.slice (some ⟨g,0,none⟩) (n+1) cap)(q:Rat):
 MatV (((W.setCell ⟨g,j*3,none⟩ (.bool (rq q).1)).setCell ⟨g,j*3+1,none⟩ (.string (rq q).2.1)).setCell ⟨g,j*3+2,none⟩ (.string (rq q).2.2)) B R n m v (IU i j q M):=by
 have hR:g≠R:=fun eR=>h.ne i hi (by rw[e,eR];rfl);have hc:∀V o u a,(World.setCell V ⟨g,o,none⟩ u).cell? ⟨R,a,none⟩=V.cell? ⟨R,a,none⟩:=fun V o u a=>zZ _ _ _ _ (by intro e;injection e with e1;first|exact hR e1|exact hR e1.symm);refine⟨by simpa using h.lt,fun a ha=>by rw[hc,hc,hc];exact h.ex a ha,fun a ha=>by rw[hc,hc,hc];exact h.hd a ha,fun a=>by simpa using h.fr a,fun a ha=>?_,h.apart,h.ne,h.lowR⟩
 by_cases ea:a=i
 .subst ea;have k:=h.rows a ha;rw[e]at k ⊢;have k2:=Kl (i:=j*3+2) (v:=.string (rq q).2.2) (Kl (i:=j*3+1) (v:=.string (rq q).2.1) (Kl (i:=j*3) (v:=.bool (rq q).1) k));rw[Lm _ (by omega) (rq q)]at k2
  rwa [D9 (s:=fun b=>rq (IU a j q M a b)) fun b hb=>by
   show _=rq (IU a j q M a b)
   unfold IU
   by_cases eb:b=j
   .rw[zE eb,zE ⟨rfl,eb⟩]
   rw[zC eb,zC fun h=>eb h.2]]at k2
 have hg:(v a).ownBlock≠some g:=fun e2=>h.apart i a hi ha (fun e3=>ea e3.symm) g (by rw[e];rfl) e2;have k2:=DT (i:=j*3+2) (v:=.string (rq q).2.2) (DT (i:=j*3+1) (v:=.string (rq q).2.1) (DT (i:=j*3) (v:=.bool (rq q).1) (h.rows a ha) hg) hg) hg
 have em:(fun b=>rq (IU i j q M a b))=fun b=>rq (M a b):=by
  funext b
  unfold IU;rw[zC fun h=>ea h.1]
 rw[em];exact k2
theorem MatV.swap(h:MatV W B R n m v M){k p:Nat}(hk:k<m)(hp:p<m):
 MatV ((W.setCell ⟨R,p,none⟩ (v k)).setCell ⟨R,k,none⟩ (v p)) B R n m (IE k p v) (AU k p M):=by
 have a:∀x y:Nat,x≠y->(⟨R,x,none⟩:Addr)≠⟨R,y,none⟩:=fun x y e1 e2=>by injection e2 with _ e3;exact e1 e3
 have c1:∀i,i<m->(W.setCell ⟨R,p,none⟩ (v k)).cell? ⟨R,i,none⟩=some (if i=p then v k else v i):=fun i hi=>by
  by_cases e:i=p
  .subst e;rw[zE rfl];exact zr W _ _ (h.hd i hi)
  rw[zC e,zZ _ _ _ _ (by first|exact a _ _ e|exact a _ _ fun x=>e x.symm)];exact h.hd i hi
 have c2:∀i,i<m->((W.setCell ⟨R,p,none⟩ (v k)).setCell ⟨R,k,none⟩ (v p)).cell? ⟨R,i,none⟩=some (IE k p v i):=fun i hi=>by
  unfold IE
  by_cases e:i=k
  .subst e;rw[zE rfl];exact zr _ _ _ (c1 i hi)
  rw[zC e,zZ _ _ _ _ (by first|exact a _ _ e|exact a _ _ fun x=>e x.symm)];exact c1 i hi
 have so:∀(V:World)(x:Nat)(u:Value),(∀i,i<n->∃u,V.cell? ⟨R,i,none⟩=some u)->∀i,i<n->∃u',(V.setCell ⟨R,x,none⟩ u).cell? ⟨R,i,none⟩=some u':=fun V x u hV i hi=>by
  obtain⟨y,hy⟩:=hV i hi
  by_cases e:i=x
  .subst e;exact⟨u,zr _ _ _ hy⟩
  exact⟨y,by rw[zZ _ _ _ _ (by first|exact a _ _ e|exact a _ _ fun x=>e x.symm)];exact hy⟩
 have sw:∀i,i<m->IE k p v i=v (if i=k then p else if i=p then k else i)/\AU k p M i=M (if i=k then p else if i=p then k else i)/\(if i=k then p else if i=p then k else i)<m:=fun i hi=>by
  unfold IE AU
  split
  .exact⟨rfl,rfl,hp⟩
  split
  .exact⟨rfl,rfl,hk⟩
  exact⟨rfl,rfl,hi⟩
 refine⟨by simpa using h.lt,so _ _ _ (so _ _ _ h.ex),c2,fun i=>by simpa using h.fr i,fun i hi=>?_,fun i j hi hj e=>?_,fun i hi=>?_,h.lowR⟩
 .obtain⟨e1,e2,e3⟩:=sw i hi;rw[e1];simp only[e2];exact DT (DT (h.rows _ e3) (h.ne _ e3)) (h.ne _ e3)
 .rw[(sw i hi).1,(sw j hj).1];refine h.apart _ _ (sw i hi).2.2 (sw j hj).2.2 fun e2=>?_;revert e2
  split<;>split<;>(try split)<;>(try split)<;>omega
 rw[(sw i hi).1];exact h.ne _ (sw i hi).2.2
theorem MatV.start(w:World){B:Nat}(hB:B<=w.heap.size)(n:Nat)(v:Nat->Value)(M:Mx):MatV (w.alloc (.cells (madeCells #[.slice none 0 0] n) 27)) B w.heap.size n 0 v M:=by
 have h:=zo w (.cells (madeCells #[(.slice none 0 0:Value)] n) 27);refine⟨by simp,fun x hx=>⟨.slice none 0 0,?_⟩,fun x h=>absurd h (by omega),fun x=>by simp only[World.frozen?,h];simp,fun x h=>absurd h (by omega),fun x _ h=>absurd h (by omega),fun x h=>absurd h (by omega),hB⟩;simp only[World.cell?,h];simp[madeCells,hx];rw[xW];rfl
theorem MatV.step(h:MatV W B R n m v M)(hm:m<n)(hb:Below W.heap.size W W')(hB:B<=W.heap.size){x:Value}(hx:W'.ownsRow W.heap.size 34 3 x (n+1) (AN (n+1) fun j=>rq (M m j))):
 MatV (W'.setCell ⟨R,m,none⟩ x) B R n (m+1) (fun i=>if i=m then x else v i) M:=by
 have h2:=h.below hb;have aa:∀b,x.ownBlock=some b->W.heap.size<=b:=fun b e=>(hx.lt b e).1;have ad:x.ownBlock≠some R:=fun e=>by have:=aa R e;have:=h.lt;omega
 have ab:∀i,i<m->∀b,(v i).ownBlock=some b->b<W.heap.size:=fun i hi b e=>((h.rows i hi).lt b e).2;have a:∀x y:Nat,x≠y->(⟨R,x,none⟩:Addr)≠⟨R,y,none⟩:=fun x y e1 e2=>by injection e2 with _ e3;exact e1 e3
 refine⟨by simpa using h2.lt,fun i hi=>?_,fun i hi=>?_,fun i=>by simpa using h2.fr i,fun i hi=>?_,fun i j hi hj e=>?_,fun i hi=>?_,h.lowR⟩
 .obtain⟨y,hy⟩:=h2.ex i hi
  by_cases e:i=m
  .subst e;exact⟨x,zr _ _ _ hy⟩
  exact⟨y,by rw[zZ _ _ _ _ (by first|exact a _ _ e|exact a _ _ fun x=>e x.symm)];exact hy⟩
 .by_cases e:i=m
  .subst e;rw[zE rfl];obtain⟨y,hy⟩:=h2.ex i hm;exact zr _ _ _ hy
  rw[zC e,zZ _ _ _ _ (by first|exact a _ _ e|exact a _ _ fun x=>e x.symm)];exact h2.hd i (by omega)
 .by_cases e:i=m
  .subst e;rw[zE rfl];exact DT (Ij hB hx) ad
  rw[zC e];exact DT (h2.rows i (by omega)) (h2.ne i (by omega))
 .by_cases e1:i=m
  .have e2:j≠m:=fun e2=>e (by omega);rw[zE e1,zC e2];intro b d s;have:=aa b d;have:=ab j (by omega) b s;omega
  rw[zC e1]
  by_cases e2:j=m
  .rw[zE e2];intro b d s;have:=aa b s;have:=ab i (by omega) b d;omega
  rw[zC e2];exact h.apart i j (by omega) (by omega) e
 by_cases e:i=m
 .rw[zE e];exact ad
 rw[zC e];exact h.ne i (by omega)
end
def subP(k i z:Nat)(M:Mx):Mx:=fun a b=>if a=i/\k<=b/\b<z then M i b-M i k*M k b else M a b
def Hs(k z:Nat)(M:Mx):Mx:=fun a b=>if a=k/\k<=b/\b<z then M k b/M k k else M a b
theorem Ol(k i:Nat)(M:Mx):subP k i k M=M:=by
 funext a b
 unfold subP;rw[zC fun h=>by omega]
theorem Om(k:Nat)(M:Mx):Hs k k M=M:=by
 funext a b
 unfold Hs;rw[zC fun h=>by omega]
theorem QH{k i z:Nat}(M:Mx)(hk:k<=z):IU i z (M i z-M i k*M k z) (subP k i z M)=subP k i (z+1) M:=by
 funext a b
 unfold IU subP
 by_cases h1:a=i
 .by_cases h2:b=z
  .rw[zE ⟨h1,h2⟩,zE ⟨h1,by omega,by omega⟩,h2]
  rw[zC fun h=>h2 h.2]
  by_cases h3:k<=b/\b<z
  .rw[zE ⟨h1,h3⟩,zE ⟨h1,h3.1,by omega⟩]
  rw[zC fun h=>h3 h.2,zC fun h=>h3 ⟨h.2.1,by omega⟩]
 rw[zC fun h=>h1 h.1,zC fun h=>h1 h.1,zC fun h=>h1 h.1]
theorem QI{k z:Nat}(M:Mx)(hk:k<=z):IU k z (M k z/M k k) (Hs k z M)=Hs k (z+1) M:=by
 funext a b
 unfold IU Hs
 by_cases h1:a=k
 .by_cases h2:b=z
  .rw[zE ⟨h1,h2⟩,zE ⟨h1,by omega,by omega⟩,h2]
  rw[zC fun h=>h2 h.2]
  by_cases h3:k<=b/\b<z
  .rw[zE ⟨h1,h3⟩,zE ⟨h1,h3.1,by omega⟩]
  rw[zC fun h=>h3 h.2,zC fun h=>h3 ⟨h.2.1,by omega⟩]
 rw[zC fun h=>h1 h.1,zC fun h=>h1 h.1,zC fun h=>h1 h.1]
theorem UA{k i z b:Nat}(M:Mx)(h:z<=b)(a:Nat):subP k i z M a b=M a b:=by unfold subP;rw[zC fun h=>by omega]
theorem On{k i z a:Nat}(M:Mx)(h:a≠i)(b:Nat):subP k i z M a b=M a b:=by unfold subP;rw[zC fun h2=>h h2.1]
theorem UB{k z b:Nat}(M:Mx)(h:z<=b)(a:Nat):Hs k z M a b=M a b:=by unfold Hs;rw[zC fun h=>by omega]
theorem Ts{k i n:Nat}(M:Mx)(a b:Nat)(h:b<=n):subP k i (n+1) M a b=CE k i M a b:=by
 unfold subP CE
 by_cases h1:a=i/\k<=b
 .rw[zE ⟨h1.1,h1.2,by omega⟩,zE h1]
 rw[zC fun h2=>h1 ⟨h2.1,h2.2.1⟩,zC h1]
theorem Tt{k n:Nat}(M:Mx)(a b:Nat)(h:b<=n):Hs k (n+1) M a b=Bc k M a b:=by
 unfold Hs Bc
 by_cases h1:a=k/\k<=b
 .rw[zE ⟨h1.1,h1.2,by omega⟩,zE h1]
 rw[zC fun h2=>h1 ⟨h2.1,h2.2.1⟩,zC h1]
end Nt
end
section
open Go.RowKit Go.Shelf
namespace Nt
noncomputable def Mg(j:Nat):Code:=((Tryz.f57.body.map CZ).bind fun l=>l[j]?).getD .skip
theorem UC(f p a:Rat)(hf:OkQ f)(hp:OkQ p)(ha:OkQ a):∃(r1 r2:Raw)(E1 E2:Int),
 (∀w,Calls prog 55 #[Im (rq f),Im (rq p)] w fun e w'=>e=.returned (.tuple #[Im r1,.int .i64 E1])/\Below w.heap.size w w') /\
 (∀w,Calls prog 54 #[Im (rq a),Im r1] w fun e w'=>e=.returned (.tuple #[Im r2,.int .i64 E2])/\Below w.heap.size w w') /\
 ((E1=0/\E2=0/\r2=rq (a-f*p)/\ShortQ f/\ShortQ p/\ShortQ a/\ShortQ (f*p))\/((E1=2\/(E1=0/\E2=2))/\¬(ShortQ f/\ShortQ p/\ShortQ a/\ShortQ (f*p)))):=by
 by_cases h1:ShortQ f/\ShortQ p
 .by_cases h2:ShortQ a/\ShortQ (f*p)
  .exact⟨rq (f*p),rq (a-f*p),0,0,fun w=>DW f p h1.1 h1.2 w,fun w=>Hm a (f*p) h2.1 h2.2 w,.inl ⟨rfl,rfl,rfl,h1.1,h1.2,h2⟩⟩
  exact⟨rq (f*p),zraw,0,2,fun w=>DW f p h1.1 h1.2 w,fun w=>Oh a (f*p) ha (OG h1.1 h1.2) h2 w,.inr ⟨.inr ⟨rfl,rfl⟩,fun h=>h2 h.2.2⟩⟩
 exact⟨zraw,zraw,2,1,fun w=>IC f p hf hp h1 w,fun w=>QF (rq a).1 false (rq a).2.1 (rq a).2.2 ⟨#[]⟩ ⟨#[]⟩ w (Ep ha).1 (Ep ha).2 (by decide) (by decide) (.inr (by unfold As;rw[show isN ⟨#[]⟩=false from rfl];rfl)),.inr ⟨.inl rfl,fun h=>h1 ⟨h.1,h.2.1⟩⟩⟩
theorem QJ{n k i t:Nat}{M:Mx}(h1:k<=t)(h2:t<=n)(h:¬(ShortQ (M i k)/\ShortQ (M k t)/\ShortQ (M i t)/\ShortQ (M i k*M k t))):Eh SQ n k i M=false:=by
 cases hc:Eh SQ n k i M with
 |false=>rfl
 |true=>
  obtain⟨a,b,c,d⟩:=(Dy SQ).1 hc t h1 h2;exact absurd ⟨zf a,zf b,zf c,zf d⟩ h
theorem Mh{W:World}{g a b c:Nat}{u1 u2 u3:Value}{p:Addr}(h:p.block≠g):(((W.setCell ⟨g,a,none⟩ u1).setCell ⟨g,b,none⟩ u2).setCell ⟨g,c,none⟩ u3).cell? p=W.cell? p:=by
 have hc:∀V o u,(World.setCell V ⟨g,o,none⟩ u).cell? p=V.cell? p:=fun V o u=>zZ _ _ _ _ (by intro e;first|exact h (by rw[e])|exact h (by rw[<-e]));rw[hc,hc,hc]
def K9(w:World)(R n k i fb:Nat)(v:Nat->Value)(M:Mx)(z:Nat)(wq:World):Prop :=
 Hid (MatV wq w.heap.size R n n v (subP k i z M))/\Hid (B3 wq fb (rq (M i k)).1 (rq (M i k)).2.1 (rq (M i k)).2.2)/\Hid (Below w.heap.size w wq)/\Hid (∀b,k<=b->b<z->ShortQ (M i k)/\ShortQ (M k b)/\ShortQ (M i b)/\ShortQ (M i k*M k b))
theorem Tu{c0 c1 c2 c3 c8 bS bT bU bW bX bY bZ b0 b1 b2 b3 b4 b5 b6 b7 b8 b9 cc cd ce cf cg ch cj cl cm cn co cq cr ct cu cv cw cx cy cz cA cB cC cD cE cF cG cH cI cJ cK cL cM cN cP cR cS cT cU cV cW cX cY cZ c9 da db dc dd de df dg dh di dj dk dl dq dr ds dt du dw dx dy dz dA dB aF aG aH aI aJ aK aL aM aN aO aP aQ aR aS aT aU aV aW aX aY aZ a0 a1 a2 a3 a6 a7 a8 a9 ba bb bc bd be bf bg bh bi bj bk bm bn bo bp bq br bs bt bu bv bx bz bA bB bC bD bE bF bG bH bI a4 a5 a18 a19 dP dQ dR dS dT dU dV dW dX dY dZ d0 d1 d2 d3 d4 d5 d6 d7 d8 d9 ea eb ec ed ee ef eg eh ej el em en eo ep er es et eu ew ey ez:Value}{Q:Exit->Act->World->Prop}(R n k i fb:Nat)(v:Nat->Value)(M:Mx)(w w0:World)(e1:n<=8)(hk:k<n)(hi:i<n)(dI:i≠k)(hO:∀a b,a<n->b<=n->OkQ (M a b))(dE:∀a,a<n->(v a).ownBlock≠some fb)(dL:K9 w R n k i fb v M k w0)
 (hx:∀(u4 u5 u18 u19 u145 u146 u147 u148 u149 u150 u151 u152 u153 u154 u155 u156 u157 u158 u159 u160 u161 u162 u163 u164 u165 u166 u167 u168 u169 u170 u171 u172 u173 u174 u175 u176 u177 u178 u179 u180 u181 u182 u183 u184 u185 u186:Value) (wq:World),K9 w R n k i fb v M (n+1) wq->Q (.exit 10) ⟨#[c0,c1,c2,c3,u4,u5,.int .i64 (n:Int),.slice (some ⟨R,0,none⟩) n n,c8,.int .i64 (k:Int),bS,bT,bU,bW,bX,.int .i64 (i:Int),.pointer (some ⟨fb,0,none⟩),.int .i64 ((n+1:Nat):Int),u18,u19,bY,bZ,b0,b1,b2,b3,b4,b5,b6,b7,b8,b9,cc,cd,ce,cf,cg,ch,cj,cl,cm,cn,co,cq,cr,ct,cu,cv,cw,cx,cy,cz,cA,cB,cC,cD,cE,cF,cG,cH,cI,cJ,cK,cL,cM,cN,cP,cR,cS,cT,cU,cV,cW,cX,cY,cZ,c9,da,db,dc,dd,de,df,dg,dh,di,dj,dk,dl,dq,dr,ds,dt,du,dw,dx,dy,dz,dA,dB,aF,aG,aH,aI,aJ,aK,aL,aM,aN,aO,aP,aQ,aR,aS,aT,aU,aV,aW,aX,aY,aZ,a0,a1,a2,a3,a6,a7,a8,a9,ba,bb,bc,bd,be,bf,bg,bh,bi,bj,bk,bm,bn,bo,bp,bq,u145,u146,u147,u148,u149,u150,u151,u152,u153,u154,u155,u156,u157,u158,u159,u160,u161,u162,u163,u164,u165,u166,u167,u168,u169,u170,u171,u172,u173,u174,u175,u176,u177,u178,u179,u180,u181,u182,u183,u184,u185,u186,br,bs,bt,bu,bv,bx,bz,bA,bB,bC,bD,bE,bF,bG,bH,bI],[]⟩ wq)
 (hr:∀(u17 u18 u19 u145 u146 u147 u148 u149 u150 u151 u152 u153 u154 u155 u156 u157 u158 u159 u160 u161 u162 u163 u164 u165 u166 u167 u168 u169 u170 u171 u172 u173 u174 u175 u176 u177 u178 u179 u180 u181 u182 u183 u184 u185 u186:Value) (wq:World),Below w.heap.size w wq->Eh SQ n k i M=false->Q .ret ⟨#[c0,c1,c2,c3,.slice none 0 0,.int .i64 2,.int .i64 (n:Int),.slice (some ⟨R,0,none⟩) n n,c8,.int .i64 (k:Int),bS,bT,bU,bW,bX,.int .i64 (i:Int),.pointer (some ⟨fb,0,none⟩),u17,u18,u19,bY,bZ,b0,b1,b2,b3,b4,b5,b6,b7,b8,b9,cc,cd,ce,cf,cg,ch,cj,cl,cm,cn,co,cq,cr,ct,cu,cv,cw,cx,cy,cz,cA,cB,cC,cD,cE,cF,cG,cH,cI,cJ,cK,cL,cM,cN,cP,cR,cS,cT,cU,cV,cW,cX,cY,cZ,c9,da,db,dc,dd,de,df,dg,dh,di,dj,dk,dl,dq,dr,ds,dt,du,dw,dx,dy,dz,dA,dB,aF,aG,aH,aI,aJ,aK,aL,aM,aN,aO,aP,aQ,aR,aS,aT,aU,aV,aW,aX,aY,aZ,a0,a1,a2,a3,a6,a7,a8,a9,ba,bb,bc,bd,be,bf,bg,bh,bi,bj,bk,bm,bn,bo,bp,bq,u145,u146,u147,u148,u149,u150,u151,u152,u153,u154,u155,u156,u157,u158,u159,u160,u161,u162,u163,u164,u165,u166,u167,u168,u169,u170,u171,u172,u173,u174,u175,u176,u177,u178,u179,u180,u181,u182,u183,u184,u185,u186,br,bs,bt,bu,bv,bx,bz,bA,bB,bC,bD,bE,bF,bG,bH,bI],[]⟩ wq):
 Code.wp prog (Code.loop (Mg 5)) Q ⟨#[c0,c1,c2,c3,a4,a5,.int .i64 (n:Int),.slice (some ⟨R,0,none⟩) n n,c8,.int .i64 (k:Int),bS,bT,bU,bW,bX,.int .i64 (i:Int),.pointer (some ⟨fb,0,none⟩),.int .i64 (k:Int),a18,a19,bY,bZ,b0,b1,b2,b3,b4,b5,b6,b7,b8,b9,cc,cd,ce,cf,cg,ch,cj,cl,cm,cn,co,cq,cr,ct,cu,cv,cw,cx,cy,cz,cA,cB,cC,cD,cE,cF,cG,cH,cI,cJ,cK,cL,cM,cN,cP,cR,cS,cT,cU,cV,cW,cX,cY,cZ,c9,da,db,dc,dd,de,df,dg,dh,di,dj,dk,dl,dq,dr,ds,dt,du,dw,dx,dy,dz,dA,dB,aF,aG,aH,aI,aJ,aK,aL,aM,aN,aO,aP,aQ,aR,aS,aT,aU,aV,aW,aX,aY,aZ,a0,a1,a2,a3,a6,a7,a8,a9,ba,bb,bc,bd,be,bf,bg,bh,bi,bj,bk,bm,bn,bo,bp,bq,dP,dQ,dR,dS,dT,dU,dV,dW,dX,dY,dZ,d0,d1,d2,d3,d4,d5,d6,d7,d8,d9,ea,eb,ec,ed,ee,ef,eg,eh,ej,el,em,en,eo,ep,er,es,et,eu,ew,ey,ez,br,bs,bt,bu,bv,bx,bz,bA,bB,bC,bD,bE,bF,bG,bH,bI],[]⟩ w0:=by
 conv=>arg 2;arg 1;whnf
 conv=>arg 4;zeta
 have e0:k<=8:=by omega
 replace dL:=zh dL;replace hx:=zh hx;replace hr:=zh hr;replace hO:=zh hO;replace dE:=zh dE;replace dI:=zh dI
 go_loopw [17] (fun j wq=>∃z:Nat,k<=z/\z<=n+1/\j=.int .i64 (z:Int)/\Hid (K9 w R n k i fb v M z wq)) (fun j _=>n+1-(intOf j).toNat)
 case atStart=>exact⟨k,zB _,by omega,rfl,dL.o⟩
 case round=>
  obtain⟨z,eM,hz,rfl,hI⟩:=hrel
  by_cases hlt:z<=n
  .obtain ⟨hM,hF,aw,eZ⟩:=hI.o;clear hI;obtain⟨gk,ck,ek,eP,bM,eQ,eR,eE⟩:=hM.o.form hk;obtain⟨gi,ci,ei,eA,aE,eB,eC,eD⟩:=hM.o.form hi;obtain⟨k1,k2,k3⟩:=eE z hlt;obtain⟨i1,i2,i3⟩:=eD z hlt;rw[On M (Ne.symm dI.o) z]at k1 k2 k3;rw[UA M (zB z) i]at i1 i2 i3;obtain⟨r1,r2,E1,E2,km,ks,dD⟩:=UC (M i k) (M k z) (M i z) (hO.o i k hi (by omega)) (hO.o k z hk hlt) (hO.o i z hi hlt);obtain⟨fg,fn,fd,dF⟩:=BI (M i k);obtain⟨pg,pn,pd,dJ⟩:=BI (M k z);obtain⟨ag,an,ad,dC⟩:=BI (M i z);have bN:=hF.o;rw[dF]at bN km;rw[dJ]at k1 k2 k3 km;rw[dC]at i1 i2 i3 ks;have f0:=bN.facts;have f7:=bN.lt;have eL:=(hM.o.hd k hk).trans (congrArg some ek);have eK:=(hM.o.hd i hi).trans (congrArg some ei);have bO:=hM.o.lt
   have HO:Hid (∀W,Below wr.heap.size wr W->W.cell? ⟨R,k,none⟩=some (.slice (some ⟨gk,0,none⟩) (n+1) ck)/\W.cell? ⟨R,i,none⟩=some (.slice (some ⟨gi,0,none⟩) (n+1) ci)/\W.cell? ⟨gk,z*3,none⟩=some (.bool pg)/\W.cell? ⟨gk,z*3+1,none⟩=some (.string pn)/\W.cell? ⟨gk,z*3+2,none⟩=some (.string pd)/\W.cell? ⟨gi,z*3,none⟩=some (.bool ag)/\W.cell? ⟨gi,z*3+1,none⟩=some (.string an)/\W.cell? ⟨gi,z*3+2,none⟩=some (.string ad)/\W.cell? ⟨fb,0,none⟩=some (.bool fg)/\W.cell? ⟨fb,1,none⟩=some (.string fn)/\W.cell? ⟨fb,2,none⟩=some (.string fd)):=fun W h=>
    ⟨(h.cell (p:=⟨R,_,none⟩) bO).trans eL,(h.cell (p:=⟨R,_,none⟩) bO).trans eK,(h.cell (p:=⟨gk,_,none⟩) bM).trans k1,(h.cell (p:=⟨gk,_,none⟩) bM).trans k2,(h.cell (p:=⟨gk,_,none⟩) bM).trans k3,(h.cell (p:=⟨gi,_,none⟩) aE).trans i1,(h.cell (p:=⟨gi,_,none⟩) aE).trans i2,(h.cell (p:=⟨gi,_,none⟩) aE).trans i3,(h.cell (p:=⟨fb,_,none⟩) f7).trans f0.1,(h.cell (p:=⟨fb,_,none⟩) f7).trans f0.2.1,(h.cell (p:=⟨fb,_,none⟩) f7).trans f0.2.2.1⟩
   have dH:Hid (fb≠gi):=fun e=>dE.o i hi (by rw[ei,e];rfl);have dG:=zh eC;have ax:=zh (show R<wr.heap.size/\gi<wr.heap.size/\fb<wr.heap.size/\w.heap.size<=gi/\gi≠R from⟨bO,aE,f7,eA,eB⟩);have e2:Hid (∀a,a<n->∀b,(v a).ownBlock=some b->b<wr.heap.size):=fun a ha b hb=>((hM.o.rows a ha).lt b hb).2;have j0:(0:Int)<=(z:Int):=by omega
   have j1:(z:Int)<(n:Int)+1:=by omega
   have j2:(z:Int)<=(n:Int):=by omega
   have j3:(0:Int)<=(k:Int):=by omega
   have j4:(k:Int)<(n:Int):=by omega
   have j5:(0:Int)<=(i:Int):=by omega
   have j6:(i:Int)<(n:Int):=by omega
   obtain⟨r1g,r1n,r1d⟩:=r1;replace km:Hid (∀w,Calls prog 55 #[.agg #[.bool fg,.string fn,.string fd],.agg #[.bool pg,.string pn,.string pd]] w fun e w'=>e=.returned (.tuple #[.agg #[.bool r1g,.string r1n,.string r1d],.int .i64 E1])/\Below w.heap.size w w'):=km;replace ks:Hid (∀w,Calls prog 54 #[.agg #[.bool ag,.string an,.string ad],.agg #[.bool r1g,.string r1n,.string r1d]] w fun e w'=>e=.returned (.tuple #[Im r2,.int .i64 E2])/\Below w.heap.size w w'):=ks;have eJ:Hid (Below wr.heap.size wr wr):=zI _ _;have bJ:=eJ;have aA:Hid (Below wr.heap.size wr (wr.alloc (.cells #[.bool false,.string ⟨#[]⟩,.string ⟨#[]⟩] 34))):=(zI _ _).alloc (zB _) _;have au:Hid (Below wr.heap.size wr (wr.alloc (.cells #[.bool false,.string ⟨#[]⟩,.string ⟨#[]⟩] 34)).drew):=aA.o.drew;have av:Hid (Below wr.heap.size wr wr.drew):=bJ.o.drew;have aD:Hid (B3 (wr.alloc (.cells #[.bool false,.string ⟨#[]⟩,.string ⟨#[]⟩] 34)).drew wr.heap.size false ⟨#[]⟩ ⟨#[]⟩):=B3.new wr _ _ _;clear eJ f0 f7 bN k1 k2 k3 i1 i2 i3 eP bM eQ eR eE eA aE eB eC eD eL eK bO;obtain⟨p1,p2,p3,p4,p5,p6,p7,p8,p9,bK,bL⟩:=HO.o _ bJ.o
   rcases dD with⟨rfl,rfl,dK,sh⟩|⟨eF,eN⟩
   .replace dK:=zh dK;replace sh:=zh sh;replace dF:=zh dF;replace dJ:=zh dJ;replace dC:=zh dC;obtain⟨r2g,r2n,r2d⟩:=r2;have eT:Hid (B3 wr fb (rq (M i k)).1 (rq (M i k)).2.1 (rq (M i k)).2.2):=hF
    go_wp2_with fail
    go_region_held3 (fun w'=>w'.cell? ⟨R,k,none⟩=some (.slice (some ⟨gk,0,none⟩) (n+1) ck)/\w'.cell? ⟨R,i,none⟩=some (.slice (some ⟨gi,0,none⟩) (n+1) ci)/\w'.cell? ⟨gk,z*3,none⟩=some (.bool pg)/\w'.cell? ⟨gk,z*3+1,none⟩=some (.string pn)/\w'.cell? ⟨gk,z*3+2,none⟩=some (.string pd)/\w'.cell? ⟨gi,z*3,none⟩=some (.bool ag)/\w'.cell? ⟨gi,z*3+1,none⟩=some (.string an)/\w'.cell? ⟨gi,z*3+2,none⟩=some (.string ad)/\w'.cell? ⟨fb,0,none⟩=some (.bool fg)/\w'.cell? ⟨fb,1,none⟩=some (.string fn)/\w'.cell? ⟨fb,2,none⟩=some (.string fd)) (first|(with_reducible exact HO.o _ bJ.o)|(with_reducible exact HO.o _ av.o)|(with_reducible exact HO.o _ au.o)|(with_reducible exact HO.o _ aA.o)|(with_reducible exact HO.o _ aa.o)|(with_reducible exact HO.o _ (aa.o.alloc aa.o.size _))|(with_reducible exact HO.o _ (((aa.o.setCell (zB _) _).setCell (zB _) _).setCell (zB _) _))|go_keep)
     (first
       |(go_at_call 55;refine(km.o _).q fun w2 ak=>?_;have am:=zh (aD.o.below ak);have aa:=au.t ak;obtain⟨y1,y2,y3,y4,y5,y6⟩:=am.o.facts;have y7:=am.o.lt;clear ak)
       |(go_at_call 55;refine(km.o _).q fun w2 ak=>?_;have aa:=av.t ak;clear ak))
    all_goals (
     first
      |(obtain⟨qb,ae⟩:∃b,b=w2.heap.size:=⟨_,rfl⟩;obtain⟨w3,af⟩:∃W,W=w2.alloc (.cells #[.bool r1g,.string r1n,.string r1d] 34):=⟨_,rfl⟩;rw[<-af,<-ae];have ao:Hid (B3 w3 qb r1g r1n r1d):=(by rw[af,ae];exact B3.new w2 _ _ _);have aq:Hid (Below wr.heap.size wr w3):=(by rw[af];exact aa.o.alloc aa.o.size _);have ah:wr.heap.size<=qb:=(by rw[ae];exact aa.o.size))
      |(obtain⟨qb,ae⟩:∃b,b=wr.heap.size:=⟨_,rfl⟩;obtain⟨w3,af⟩:∃W,W=((w2.setCell ⟨wr.heap.size,0,none⟩ (.bool r1g)).setCell ⟨wr.heap.size,1,none⟩ (.string r1n)).setCell ⟨wr.heap.size,2,none⟩ (.string r1d):=⟨_,rfl⟩;rw[<-af,<-ae];have ao:Hid (B3 w3 qb r1g r1n r1d):=(by rw[af,ae];exact((am.o.set0 r1g).set1 r1n).set2 r1d);have aq:Hid (Below wr.heap.size wr w3):=(by rw[af];exact((aa.o.setCell (zB _) _).setCell (zB _) _).setCell (zB _) _);have ah:wr.heap.size<=qb:=(by rw[ae];exact zB _);clear am y1 y2 y3 y4 y5 y6 y7)
     clear af ae aa av au aA aD km;replace ah:=zh ah;obtain⟨x1,x2,x3,x4,x5,x6⟩:=ao.o.facts;have x7:=ao.o.lt;clear p1 p2 p3 p4 p5 p6 p7 p8 p9 bK bL;obtain⟨p1,p2,p3,p4,p5,p6,p7,p8,p9,bK,bL⟩:=HO.o _ aq.o;have az:Hid (B3 w3.drew qb r1g r1n r1d):=ao.o;have al:Hid (Below wr.heap.size wr w3.drew):=aq.o.drew;have dM:w3.drew.cell? ⟨qb,0,none⟩=some (.bool r1g):=x1;have dN:w3.drew.cell? ⟨qb,1,none⟩=some (.string r1n):=x2;have dO:w3.drew.cell? ⟨qb,2,none⟩=some (.string r1d):=x3
     go_wp2_with fail
     refine yS ?_;refine yU (S:=fun w'=>w'.cell? ⟨R,k,none⟩=some (.slice (some ⟨gk,0,none⟩) (n+1) ck)/\w'.cell? ⟨R,i,none⟩=some (.slice (some ⟨gi,0,none⟩) (n+1) ci)/\w'.cell? ⟨gk,z*3,none⟩=some (.bool pg)/\w'.cell? ⟨gk,z*3+1,none⟩=some (.string pn)/\w'.cell? ⟨gk,z*3+2,none⟩=some (.string pd)/\w'.cell? ⟨gi,z*3,none⟩=some (.bool ag)/\w'.cell? ⟨gi,z*3+1,none⟩=some (.string an)/\w'.cell? ⟨gi,z*3+2,none⟩=some (.string ad)/\w'.cell? ⟨fb,0,none⟩=some (.bool fg)/\w'.cell? ⟨fb,1,none⟩=some (.string fn)/\w'.cell? ⟨fb,2,none⟩=some (.string fd)) (by kernel_rfl) (HO.o _ al.o) (fun ab=>?_);refine tkfH (v:=?_) 0 rfl (by assumption) (Or.inl ⟨by rfl,?_⟩) ?_;rotate_left
     . (intro w d;(try dsimp only at d);(try obtain⟨s1,s2,s3,s4,s5,s6,s7,s8,s9,ai,aj⟩:=d);go_simp<;>with_reducible rfl)
     try simp only[Act.put,zA]
     refine tkfH (v:=?_) 1 rfl (by assumption) (Or.inl ⟨by rfl,?_⟩) ?_;rotate_left
     . (intro w d;(try dsimp only at d);(try obtain⟨s1,s2,s3,s4,s5,s6,s7,s8,s9,ai,aj⟩:=d);go_simp<;>with_reducible rfl)
     try simp only[Act.put]
     refine tkfH (v:=?_) 2 rfl (by assumption) (Or.inl ⟨by rfl,?_⟩) ?_;rotate_left
     . (intro w d;(try dsimp only at d);(try obtain⟨s1,s2,s3,s4,s5,s6,s7,s8,s9,ai,aj⟩:=d);go_simp<;>with_reducible rfl)
     try simp only[Act.put]
     refine tkfH (v:=?_) 3 rfl (by assumption) (Or.inl ⟨by rfl,?_⟩) ?_;rotate_left
     . (intro w d;(try dsimp only at d);(try obtain⟨s1,s2,s3,s4,s5,s6,s7,s8,s9,ai,aj⟩:=d);go_simp<;>with_reducible rfl)
     try simp only[Act.put]
     refine tkfH (v:=?_) 4 rfl (by assumption) (Or.inl ⟨by rfl,?_⟩) ?_;rotate_left
     . (intro w d;(try dsimp only at d);(try obtain⟨s1,s2,s3,s4,s5,s6,s7,s8,s9,ai,aj⟩:=d);go_simp<;>with_reducible rfl)
     try simp only[Act.put]
     refine tkfH (v:=?_) 5 rfl (by assumption) (Or.inl ⟨by rfl,?_⟩) ?_;rotate_left
     . (intro w d;(try dsimp only at d);(try obtain⟨s1,s2,s3,s4,s5,s6,s7,s8,s9,ai,aj⟩:=d);go_simp<;>with_reducible rfl)
     try simp only[Act.put]
     refine tkfH (v:=?_) 6 rfl (by assumption) (Or.inl ⟨by rfl,?_⟩) ?_;rotate_left
     . (intro w d;(try dsimp only at d);(try obtain⟨s1,s2,s3,s4,s5,s6,s7,s8,s9,ai,aj⟩:=d);go_simp<;>with_reducible rfl)
     try simp only[Act.put]
     refine zP (rs:=[7]) (by kernel_rfl) (by simp) ?_;refine zK (o:=_) rfl (fun K hK=>?_) ?_
     .go_simp;refine hK.o _ _ (by with_reducible exact HO.o _ al.o) (fun s=>?_);clear hK K ab;have ab:=s;clear s
      try simp only[Act.put,zA,zG,zF]
      refine zP (rs:=[8]) (by kernel_rfl) (by simp) ?_;refine zK (o:=_) rfl (fun K hK=>?_) ?_
      .go_simp;go_at_call 54;refine(ks.o _).q fun w4 aB=>?_;have aC:=zh (az.o.below aB);have ay:=al.t aB;obtain⟨y1,y2,y3,y4,y5,y6⟩:=aC.o.facts;have y7:=aC.o.lt;clear aB
       try go_wp2_with fail
       refine hK.o _ _ (by with_reducible exact HO.o _ ay.o) (fun s=>?_);clear hK K ab;have ab:=s;clear s
       try simp only[Act.put,zA,zG,zF]
       refine tkfH (v:=?_) 9 rfl (by assumption) (Or.inl ⟨by rfl,?_⟩) ?_;rotate_left
       . (intro w d;(try dsimp only at d);(try obtain⟨s1,s2,s3,s4,s5,s6,s7,s8,s9,ai,aj⟩:=d);go_simp<;>with_reducible rfl)
       try simp only[Act.put,zA]
       refine tkfH (v:=?_) 10 rfl (by assumption) (Or.inl ⟨by rfl,?_⟩) ?_;rotate_left
       . (intro w d;(try dsimp only at d);(try obtain⟨s1,s2,s3,s4,s5,s6,s7,s8,s9,ai,aj⟩:=d);go_simp<;>with_reducible rfl)
       try simp only[Act.put]
       refine tkfH (v:=?_) 11 rfl (by assumption) (Or.inl ⟨by rfl,?_⟩) ?_;rotate_left
       . (intro w d;(try dsimp only at d);(try obtain⟨s1,s2,s3,s4,s5,s6,s7,s8,s9,ai,aj⟩:=d);go_simp<;>with_reducible rfl)
       try simp only[Act.put]
       refine zP (rs:=[12]) (by kernel_rfl) (by simp) ?_;refine zK (o:=_) rfl (fun K hK=>?_) ?_
       .go_simp;refine hK.o _ _ (by with_reducible exact HO.o _ (((ay.o.setCell ah.o _).setCell ah.o _).setCell ah.o _)) (fun s=>?_);clear hK K ab;have ab:=s;clear s
        try simp only[Act.put,zA,zG,zF]
        refine tkfH (v:=?_) 13 rfl (by assumption) (Or.inl ⟨by rfl,?_⟩) ?_;rotate_left
        . (intro w d;(try dsimp only at d);(try obtain⟨s1,s2,s3,s4,s5,s6,s7,s8,s9,ai,aj⟩:=d);go_simp<;>with_reducible rfl)
        try simp only[Act.put,zA]
        refine ym (by kernel_rfl) ?_ _;refine yF ?_;clear az al ao aq x1 x2 x3 x4 x5 x6 x7 dM dN dO;have bQ:Hid (B3 (((w4.setCell ⟨qb,0,none⟩ (.bool r2g)).setCell ⟨qb,1,none⟩ (.string r2n)).setCell ⟨qb,2,none⟩ (.string r2d)) qb r2g r2n r2d):=((aC.o.set0 r2g).set1 r2n).set2 r2d;have ar:Hid (Below wr.heap.size wr (((w4.setCell ⟨qb,0,none⟩ (.bool r2g)).setCell ⟨qb,1,none⟩ (.string r2n)).setCell ⟨qb,2,none⟩ (.string r2d))):=(((ay.o.setCell ah.o (p:=⟨qb,0,none⟩) (.bool r2g)).setCell ah.o (p:=⟨qb,1,none⟩) (.string r2n)).setCell ah.o (p:=⟨qb,2,none⟩) (.string r2d));obtain⟨w5,eO⟩:∃W,W=((w4.setCell ⟨qb,0,none⟩ (.bool r2g)).setCell ⟨qb,1,none⟩ (.string r2n)).setCell ⟨qb,2,none⟩ (.string r2d):=⟨_,rfl⟩;rw[<-eO]at bQ ar ⊢;clear eO aC ay y1 y2 y3 y4 y5 y6 y7;obtain⟨y1,y2,y3,y4,y5,y6⟩:=bQ.o.facts;have y7:=bQ.o.lt;obtain⟨p1,p2,p3,p4,p5,p6,p7,p8,p9,bK,bL⟩:=HO.o _ ar.o;have eH:=zh (hM.o.below ar.o);have eG:=zh (eT.o.below ar.o);have q7:gi<w5.heap.size:=zL ax.o.2.1 ar.o.size;have q1:w5.frozen? ⟨gi,z*3,none⟩=false:=(ar.o.frozen (p:=⟨gi,z*3,none⟩) ax.o.2.1).trans (dG.o _);have q2:w5.frozen? ⟨gi,z*3+1,none⟩=false:=(ar.o.frozen (p:=⟨gi,z*3+1,none⟩) ax.o.2.1).trans (dG.o _);have q3:w5.frozen? ⟨gi,z*3+2,none⟩=false:=(ar.o.frozen (p:=⟨gi,z*3+2,none⟩) ax.o.2.1).trans (dG.o _);have bP:qb≠gi:=wJ (zL ax.o.2.1 ah.o)
        have eV:Hid (MatV (((w5.setCell ⟨gi,z*3,none⟩ (.bool r2g)).setCell ⟨gi,z*3+1,none⟩ (.string r2n)).setCell ⟨gi,z*3+2,none⟩ (.string r2d)).drew w.heap.size R n n v (subP k i (z+1) M)):=by
         have h:=eH.o.store hi hlt ei (M i z-M i k*M k z);rw[QH M eM,<-dK.o]at h;exact h.drew
        have eU:Hid (B3 (((w5.setCell ⟨gi,z*3,none⟩ (.bool r2g)).setCell ⟨gi,z*3+1,none⟩ (.string r2n)).setCell ⟨gi,z*3+2,none⟩ (.string r2d)).drew fb (rq (M i k)).1 (rq (M i k)).2.1 (rq (M i k)).2.2):=((B3.other (W:=w5) (p:=⟨gi,z*3,none⟩) eG.o dH.o _).other (p:=⟨gi,z*3+1,none⟩) dH.o _).other (p:=⟨gi,z*3+2,none⟩) dH.o _;have eS:Hid (Below w.heap.size w (((w5.setCell ⟨gi,z*3,none⟩ (.bool r2g)).setCell ⟨gi,z*3+1,none⟩ (.string r2n)).setCell ⟨gi,z*3+2,none⟩ (.string r2d)).drew):=((((aw.o.trans (ar.o.mono aw.o.size)).setCell (p:=⟨gi,z*3,none⟩) ax.o.2.2.2.1 _).setCell (p:=⟨gi,z*3+1,none⟩) ax.o.2.2.2.1 _).setCell (p:=⟨gi,z*3+2,none⟩) ax.o.2.2.2.1 _).drew
        have eI:Hid (∀b,k<=b->b<z+1->ShortQ (M i k)/\ShortQ (M k b)/\ShortQ (M i b)/\ShortQ (M i k*M k b)):=fun b h1 h2=>by
         by_cases e:b=z
         .rw[e];exact sh.o
         exact eZ.o b h1 (by omega)
        have eX:Hid ((((w5.setCell ⟨gi,z*3,none⟩ (.bool r2g)).setCell ⟨gi,z*3+1,none⟩ (.string r2n)).setCell ⟨gi,z*3+2,none⟩ (.string r2d)).drew.cell? ⟨R,i,none⟩=some (.slice (some ⟨gi,0,none⟩) (n+1) ci)/\(((w5.setCell ⟨gi,z*3,none⟩ (.bool r2g)).setCell ⟨gi,z*3+1,none⟩ (.string r2n)).setCell ⟨gi,z*3+2,none⟩ (.string r2d)).drew.cell? ⟨qb,0,none⟩=some (.bool r2g)/\(((w5.setCell ⟨gi,z*3,none⟩ (.bool r2g)).setCell ⟨gi,z*3+1,none⟩ (.string r2n)).setCell ⟨gi,z*3+2,none⟩ (.string r2d)).drew.cell? ⟨qb,1,none⟩=some (.string r2n)/\(((w5.setCell ⟨gi,z*3,none⟩ (.bool r2g)).setCell ⟨gi,z*3+1,none⟩ (.string r2n)).setCell ⟨gi,z*3+2,none⟩ (.string r2d)).drew.cell? ⟨qb,2,none⟩=some (.string r2d)):=by
         exact⟨(Mh (Ne.symm ax.o.2.2.2.2)).trans p2,(Mh bP).trans y1,(Mh bP).trans y2,(Mh bP).trans y3⟩
        have eW:Hid (w5.cell? ⟨R,i,none⟩=some (.slice (some ⟨gi,0,none⟩) (n+1) ci)/\w5.cell? ⟨qb,0,none⟩=some (.bool r2g)/\w5.cell? ⟨qb,1,none⟩=some (.string r2n)/\w5.cell? ⟨qb,2,none⟩=some (.string r2d)):=⟨p2,y1,y2,y3⟩;have eY:Hid (w5.drew.cell? ⟨R,i,none⟩=some (.slice (some ⟨gi,0,none⟩) (n+1) ci)/\w5.drew.cell? ⟨qb,0,none⟩=some (.bool r2g)/\w5.drew.cell? ⟨qb,1,none⟩=some (.string r2n)/\w5.drew.cell? ⟨qb,2,none⟩=some (.string r2d)):=⟨p2,y1,y2,y3⟩;clear eH eG bQ ar bP
        go_wp2_with fail
        go_region_held3 (fun w'=>w'.cell? ⟨R,i,none⟩=some (.slice (some ⟨gi,0,none⟩) (n+1) ci)/\w'.cell? ⟨qb,0,none⟩=some (.bool r2g)/\w'.cell? ⟨qb,1,none⟩=some (.string r2n)/\w'.cell? ⟨qb,2,none⟩=some (.string r2d)) (first|(with_reducible exact eW.o)|(with_reducible exact eY.o)|(with_reducible exact eX.o)|go_keep) (fail)
        go_wp2
        go_roundw
        case rel=>exact⟨z+1,by omega,by omega,by go_num,eV,eU,eS,eI⟩
        case measure=>simp[intOf];omega
       exact zN
      exact zN
     exact zN
     )
   have bR:Hid (Eh SQ n k i M=false):=QJ eM hlt eN;clear eN;obtain⟨r2g,r2n,r2d⟩:=r2
   rcases eF with rfl|⟨rfl,rfl⟩
   .skip
    go_wp2_with fail
    go_region_held3 (fun w'=>w'.cell? ⟨R,k,none⟩=some (.slice (some ⟨gk,0,none⟩) (n+1) ck)/\w'.cell? ⟨R,i,none⟩=some (.slice (some ⟨gi,0,none⟩) (n+1) ci)/\w'.cell? ⟨gk,z*3,none⟩=some (.bool pg)/\w'.cell? ⟨gk,z*3+1,none⟩=some (.string pn)/\w'.cell? ⟨gk,z*3+2,none⟩=some (.string pd)/\w'.cell? ⟨gi,z*3,none⟩=some (.bool ag)/\w'.cell? ⟨gi,z*3+1,none⟩=some (.string an)/\w'.cell? ⟨gi,z*3+2,none⟩=some (.string ad)/\w'.cell? ⟨fb,0,none⟩=some (.bool fg)/\w'.cell? ⟨fb,1,none⟩=some (.string fn)/\w'.cell? ⟨fb,2,none⟩=some (.string fd)) (first|(with_reducible exact HO.o _ bJ.o)|(with_reducible exact HO.o _ av.o)|(with_reducible exact HO.o _ au.o)|(with_reducible exact HO.o _ aA.o)|(with_reducible exact HO.o _ aa.o)|(with_reducible exact HO.o _ (aa.o.alloc aa.o.size _))|(with_reducible exact HO.o _ (((aa.o.setCell (zB _) _).setCell (zB _) _).setCell (zB _) _))|go_keep)
     (first
       |(go_at_call 55;refine(km.o _).q fun w2 ak=>?_;have am:=zh (aD.o.below ak);have aa:=au.t ak;obtain⟨y1,y2,y3,y4,y5,y6⟩:=am.o.facts;have y7:=am.o.lt;clear ak)
       |(go_at_call 55;refine(km.o _).q fun w2 ak=>?_;have aa:=av.t ak;clear ak))
    all_goals (
     first
      |(obtain⟨qb,ae⟩:∃b,b=w2.heap.size:=⟨_,rfl⟩;obtain⟨w3,af⟩:∃W,W=w2.alloc (.cells #[.bool r1g,.string r1n,.string r1d] 34):=⟨_,rfl⟩;rw[<-af,<-ae];have ao:Hid (B3 w3 qb r1g r1n r1d):=(by rw[af,ae];exact B3.new w2 _ _ _);have aq:Hid (Below wr.heap.size wr w3):=(by rw[af];exact aa.o.alloc aa.o.size _);have ah:wr.heap.size<=qb:=(by rw[ae];exact aa.o.size))
      |(obtain⟨qb,ae⟩:∃b,b=wr.heap.size:=⟨_,rfl⟩;obtain⟨w3,af⟩:∃W,W=((w2.setCell ⟨wr.heap.size,0,none⟩ (.bool r1g)).setCell ⟨wr.heap.size,1,none⟩ (.string r1n)).setCell ⟨wr.heap.size,2,none⟩ (.string r1d):=⟨_,rfl⟩;rw[<-af,<-ae];have ao:Hid (B3 w3 qb r1g r1n r1d):=(by rw[af,ae];exact((am.o.set0 r1g).set1 r1n).set2 r1d);have aq:Hid (Below wr.heap.size wr w3):=(by rw[af];exact((aa.o.setCell (zB _) _).setCell (zB _) _).setCell (zB _) _);have ah:wr.heap.size<=qb:=(by rw[ae];exact zB _);clear am y1 y2 y3 y4 y5 y6 y7)
     clear af ae aa av au aA aD km;replace ah:=zh ah;go_wp2;apply hr.o
     .exact aw.o.trans (aq.o.mono aw.o.size)
     .exact bR.o
     )
   skip
   go_wp2_with fail
   go_region_held3 (fun w'=>w'.cell? ⟨R,k,none⟩=some (.slice (some ⟨gk,0,none⟩) (n+1) ck)/\w'.cell? ⟨R,i,none⟩=some (.slice (some ⟨gi,0,none⟩) (n+1) ci)/\w'.cell? ⟨gk,z*3,none⟩=some (.bool pg)/\w'.cell? ⟨gk,z*3+1,none⟩=some (.string pn)/\w'.cell? ⟨gk,z*3+2,none⟩=some (.string pd)/\w'.cell? ⟨gi,z*3,none⟩=some (.bool ag)/\w'.cell? ⟨gi,z*3+1,none⟩=some (.string an)/\w'.cell? ⟨gi,z*3+2,none⟩=some (.string ad)/\w'.cell? ⟨fb,0,none⟩=some (.bool fg)/\w'.cell? ⟨fb,1,none⟩=some (.string fn)/\w'.cell? ⟨fb,2,none⟩=some (.string fd)) (first|(with_reducible exact HO.o _ bJ.o)|(with_reducible exact HO.o _ av.o)|(with_reducible exact HO.o _ au.o)|(with_reducible exact HO.o _ aA.o)|(with_reducible exact HO.o _ aa.o)|(with_reducible exact HO.o _ (aa.o.alloc aa.o.size _))|(with_reducible exact HO.o _ (((aa.o.setCell (zB _) _).setCell (zB _) _).setCell (zB _) _))|go_keep)
    (first
      |(go_at_call 55;refine(km.o _).q fun w2 ak=>?_;have am:=zh (aD.o.below ak);have aa:=au.t ak;obtain⟨y1,y2,y3,y4,y5,y6⟩:=am.o.facts;have y7:=am.o.lt;clear ak)
      |(go_at_call 55;refine(km.o _).q fun w2 ak=>?_;have aa:=av.t ak;clear ak))
   all_goals (
    first
     |(obtain⟨qb,ae⟩:∃b,b=w2.heap.size:=⟨_,rfl⟩;obtain⟨w3,af⟩:∃W,W=w2.alloc (.cells #[.bool r1g,.string r1n,.string r1d] 34):=⟨_,rfl⟩;rw[<-af,<-ae];have ao:Hid (B3 w3 qb r1g r1n r1d):=(by rw[af,ae];exact B3.new w2 _ _ _);have aq:Hid (Below wr.heap.size wr w3):=(by rw[af];exact aa.o.alloc aa.o.size _);have ah:wr.heap.size<=qb:=(by rw[ae];exact aa.o.size))
     |(obtain⟨qb,ae⟩:∃b,b=wr.heap.size:=⟨_,rfl⟩;obtain⟨w3,af⟩:∃W,W=((w2.setCell ⟨wr.heap.size,0,none⟩ (.bool r1g)).setCell ⟨wr.heap.size,1,none⟩ (.string r1n)).setCell ⟨wr.heap.size,2,none⟩ (.string r1d):=⟨_,rfl⟩;rw[<-af,<-ae];have ao:Hid (B3 w3 qb r1g r1n r1d):=(by rw[af,ae];exact((am.o.set0 r1g).set1 r1n).set2 r1d);have aq:Hid (Below wr.heap.size wr w3):=(by rw[af];exact((aa.o.setCell (zB _) _).setCell (zB _) _).setCell (zB _) _);have ah:wr.heap.size<=qb:=(by rw[ae];exact zB _);clear am y1 y2 y3 y4 y5 y6 y7)
    clear af ae aa av au aA aD km;replace ah:=zh ah;obtain⟨x1,x2,x3,x4,x5,x6⟩:=ao.o.facts;have x7:=ao.o.lt;clear p1 p2 p3 p4 p5 p6 p7 p8 p9 bK bL;obtain⟨p1,p2,p3,p4,p5,p6,p7,p8,p9,bK,bL⟩:=HO.o _ aq.o;have az:Hid (B3 w3.drew qb r1g r1n r1d):=ao.o;have al:Hid (Below wr.heap.size wr w3.drew):=aq.o.drew;have dM:w3.drew.cell? ⟨qb,0,none⟩=some (.bool r1g):=x1;have dN:w3.drew.cell? ⟨qb,1,none⟩=some (.string r1n):=x2;have dO:w3.drew.cell? ⟨qb,2,none⟩=some (.string r1d):=x3
    go_wp2_with fail
    refine yS ?_;refine yU (S:=fun w'=>w'.cell? ⟨R,k,none⟩=some (.slice (some ⟨gk,0,none⟩) (n+1) ck)/\w'.cell? ⟨R,i,none⟩=some (.slice (some ⟨gi,0,none⟩) (n+1) ci)/\w'.cell? ⟨gk,z*3,none⟩=some (.bool pg)/\w'.cell? ⟨gk,z*3+1,none⟩=some (.string pn)/\w'.cell? ⟨gk,z*3+2,none⟩=some (.string pd)/\w'.cell? ⟨gi,z*3,none⟩=some (.bool ag)/\w'.cell? ⟨gi,z*3+1,none⟩=some (.string an)/\w'.cell? ⟨gi,z*3+2,none⟩=some (.string ad)/\w'.cell? ⟨fb,0,none⟩=some (.bool fg)/\w'.cell? ⟨fb,1,none⟩=some (.string fn)/\w'.cell? ⟨fb,2,none⟩=some (.string fd)) (by kernel_rfl) (HO.o _ al.o) (fun ab=>?_);refine tkfH (v:=?_) 0 rfl (by assumption) (Or.inl ⟨by rfl,?_⟩) ?_;rotate_left
    . (intro w d;(try dsimp only at d);(try obtain⟨s1,s2,s3,s4,s5,s6,s7,s8,s9,ai,aj⟩:=d);go_simp<;>with_reducible rfl)
    try simp only[Act.put,zA]
    refine tkfH (v:=?_) 1 rfl (by assumption) (Or.inl ⟨by rfl,?_⟩) ?_;rotate_left
    . (intro w d;(try dsimp only at d);(try obtain⟨s1,s2,s3,s4,s5,s6,s7,s8,s9,ai,aj⟩:=d);go_simp<;>with_reducible rfl)
    try simp only[Act.put]
    refine tkfH (v:=?_) 2 rfl (by assumption) (Or.inl ⟨by rfl,?_⟩) ?_;rotate_left
    . (intro w d;(try dsimp only at d);(try obtain⟨s1,s2,s3,s4,s5,s6,s7,s8,s9,ai,aj⟩:=d);go_simp<;>with_reducible rfl)
    try simp only[Act.put]
    refine tkfH (v:=?_) 3 rfl (by assumption) (Or.inl ⟨by rfl,?_⟩) ?_;rotate_left
    . (intro w d;(try dsimp only at d);(try obtain⟨s1,s2,s3,s4,s5,s6,s7,s8,s9,ai,aj⟩:=d);go_simp<;>with_reducible rfl)
    try simp only[Act.put]
    refine tkfH (v:=?_) 4 rfl (by assumption) (Or.inl ⟨by rfl,?_⟩) ?_;rotate_left
    . (intro w d;(try dsimp only at d);(try obtain⟨s1,s2,s3,s4,s5,s6,s7,s8,s9,ai,aj⟩:=d);go_simp<;>with_reducible rfl)
    try simp only[Act.put]
    refine tkfH (v:=?_) 5 rfl (by assumption) (Or.inl ⟨by rfl,?_⟩) ?_;rotate_left
    . (intro w d;(try dsimp only at d);(try obtain⟨s1,s2,s3,s4,s5,s6,s7,s8,s9,ai,aj⟩:=d);go_simp<;>with_reducible rfl)
    try simp only[Act.put]
    refine tkfH (v:=?_) 6 rfl (by assumption) (Or.inl ⟨by rfl,?_⟩) ?_;rotate_left
    . (intro w d;(try dsimp only at d);(try obtain⟨s1,s2,s3,s4,s5,s6,s7,s8,s9,ai,aj⟩:=d);go_simp<;>with_reducible rfl)
    try simp only[Act.put]
    refine zP (rs:=[7]) (by kernel_rfl) (by simp) ?_;refine zK (o:=_) rfl (fun K hK=>?_) ?_
    .go_simp;refine hK.o _ _ (by with_reducible exact HO.o _ al.o) (fun s=>?_);clear hK K ab;have ab:=s;clear s
     try simp only[Act.put,zA,zG,zF]
     refine zP (rs:=[8]) (by kernel_rfl) (by simp) ?_;refine zK (o:=_) rfl (fun K hK=>?_) ?_
     .go_simp;go_at_call 54;refine(ks.o _).q fun w4 aB=>?_;have aC:=zh (az.o.below aB);have ay:=al.t aB;obtain⟨y1,y2,y3,y4,y5,y6⟩:=aC.o.facts;have y7:=aC.o.lt;clear aB
      try go_wp2_with fail
      refine hK.o _ _ (by with_reducible exact HO.o _ ay.o) (fun s=>?_);clear hK K ab;have ab:=s;clear s
      try simp only[Act.put,zA,zG,zF]
      refine tkfH (v:=?_) 9 rfl (by assumption) (Or.inl ⟨by rfl,?_⟩) ?_;rotate_left
      . (intro w d;(try dsimp only at d);(try obtain⟨s1,s2,s3,s4,s5,s6,s7,s8,s9,ai,aj⟩:=d);go_simp<;>with_reducible rfl)
      try simp only[Act.put,zA]
      refine tkfH (v:=?_) 10 rfl (by assumption) (Or.inl ⟨by rfl,?_⟩) ?_;rotate_left
      . (intro w d;(try dsimp only at d);(try obtain⟨s1,s2,s3,s4,s5,s6,s7,s8,s9,ai,aj⟩:=d);go_simp<;>with_reducible rfl)
      try simp only[Act.put]
      refine tkfH (v:=?_) 11 rfl (by assumption) (Or.inl ⟨by rfl,?_⟩) ?_;rotate_left
      . (intro w d;(try dsimp only at d);(try obtain⟨s1,s2,s3,s4,s5,s6,s7,s8,s9,ai,aj⟩:=d);go_simp<;>with_reducible rfl)
      try simp only[Act.put]
      refine zP (rs:=[12]) (by kernel_rfl) (by simp) ?_;refine zK (o:=_) rfl (fun K hK=>?_) ?_
      .go_simp;refine hK.o _ _ (by with_reducible exact HO.o _ (((ay.o.setCell ah.o _).setCell ah.o _).setCell ah.o _)) (fun s=>?_);clear hK K ab;have ab:=s;clear s
       try simp only[Act.put,zA,zG,zF]
       refine tkfH (v:=?_) 13 rfl (by assumption) (Or.inl ⟨by rfl,?_⟩) ?_;rotate_left
       . (intro w d;(try dsimp only at d);(try obtain⟨s1,s2,s3,s4,s5,s6,s7,s8,s9,ai,aj⟩:=d);go_simp<;>with_reducible rfl)
       try simp only[Act.put,zA]
       refine ym (by kernel_rfl) ?_ _;refine yF ?_;clear az al ao aq x1 x2 x3 x4 x5 x6 x7 dM dN dO;have ar:=zh (((ay.o.setCell ah.o (p:=⟨qb,0,none⟩) (.bool r2g)).setCell ah.o (p:=⟨qb,1,none⟩) (.string r2n)).setCell ah.o (p:=⟨qb,2,none⟩) (.string r2d));go_wp2;apply hr.o
       .exact aw.o.trans (ar.o.mono aw.o.size)
       exact bR.o
      exact zN
     exact zN
    exact zN
    )
  obtain rfl:z=n+1:=by omega
  go_wp2;apply hx.o;exact hI.o
theorem VR(a p:Rat)(ha:OkQ a)(hp:OkQ p)(h0:p≠0):∃(r2:Raw)(E1:Int),
 (∀w,Calls prog 108 #[Im (rq a),Im (rq p)] w fun e w'=>e=.returned (.tuple #[Im r2,.int .i64 E1])/\Below w.heap.size w w') /\
 ((E1=0/\r2=rq (a/p)/\ShortQ a/\ShortQ p)\/(E1=2/\¬(ShortQ a/\ShortQ p))):=by
 by_cases h1:ShortQ a/\ShortQ p
 .exact⟨rq (a/p),0,fun w=>Me a p h1.1 h1.2 h0 w,.inl ⟨rfl,rfl,h1⟩⟩
 exact⟨zraw,2,fun w=>Oi a p ha hp h0 h1 w,.inr ⟨rfl,h1⟩⟩
theorem QK{n k t:Nat}{M:Mx}(h1:k<=t)(h2:t<=n)(h:¬(ShortQ (M k t)/\ShortQ (M k k))):Eg SQ n k M=false:=by
 cases hc:Eg SQ n k M with
 |false=>rfl
 |true=>
  obtain⟨a,b⟩:=(CV SQ).1 hc t h1 h2;exact absurd ⟨zf a,zf b⟩ h
def KA(w:World)(R n k pb:Nat)(v:Nat->Value)(M:Mx)(z:Nat)(wq:World):Prop :=
 Hid (MatV wq w.heap.size R n n v (Hs k z M))/\Hid (B3 wq pb (rq (M k k)).1 (rq (M k k)).2.1 (rq (M k k)).2.2)/\Hid (Below w.heap.size w wq)/\Hid (∀b,k<=b->b<z->ShortQ (M k b)/\ShortQ (M k k))
theorem Tv{c0 c1 c2 c3 c8 bS bT bU bW bX bY bZ b0 b1 b2 b3 b4 b5 b6 b7 b8 b9 cc cd ce cf cg ch ci cj cl cm cn co cq cr ct cu cv cw cx cy cz cA cB cC cD cE cF cG cH cI cJ cK cL cM cN cP cR cS cT cU cV cW cX cY cZ c9 da db dc dd de df dg dh di dj dk dl dq dr ds dt du dw dx dy dz aq ar au av aw ax ay az aA aB aC aD aE aF aG aH aI aJ aK aL aM aN aO aP aQ aR aS aT aU aV aW aX aY aZ a0 a1 a2 a3 a6 a7 a8 a9 ba bb bc bd be bf bg bh bi bj bk bm bn bo bp bq br bs bt bu bv bx bz bA bB bC bD bE bF bG bH bI bJ bK bL bM a4 a5 ej el em en dJ dK dL dM dN dO dP dQ dR dS dT dU dV dW dX dY dZ d0 d1 d2 d3 d4 d5 d6 d7:Value}{Q:Exit->Act->World->Prop}(R n k pb:Nat)(v:Nat->Value)(M:Mx)(w w0:World)(eB:n<=8)(hk:k<n)(ez:M k k≠0)(hO:∀a b,a<n->b<=n->OkQ (M a b))(dF:∀a,a<n->(v a).ownBlock≠some pb)(dI:KA w R n k pb v M k w0)
 (hx:∀(u4 u5 u13 u14 u98 u99 u100 u101 u102 u103 u104 u105 u106 u107 u108 u109 u110 u111 u112 u113 u114 u115 u116 u117 u118 u119 u120 u121 u122 u123 u124:Value)(wq:World),KA w R n k pb v M (n+1) wq->Q (.exit 6) ⟨#[c0,c1,c2,c3,u4,u5,.int .i64 (n:Int),.slice (some ⟨R,0,none⟩) n n,c8,.int .i64 (k:Int),bS,.pointer (some ⟨pb,0,none⟩),.int .i64 ((n+1:Nat):Int),u13,u14,bT,bU,bW,bX,bY,bZ,b0,b1,b2,b3,b4,b5,b6,b7,b8,b9,cc,cd,ce,cf,cg,ch,ci,cj,cl,cm,cn,co,cq,cr,ct,cu,cv,cw,cx,cy,cz,cA,cB,cC,cD,cE,cF,cG,cH,cI,cJ,cK,cL,cM,cN,cP,cR,cS,cT,cU,cV,cW,cX,cY,cZ,c9,da,db,dc,dd,de,df,dg,dh,di,dj,dk,dl,dq,dr,ds,dt,du,dw,dx,dy,dz,u98,u99,u100,u101,u102,u103,u104,u105,u106,u107,u108,u109,u110,u111,u112,u113,u114,u115,u116,u117,u118,u119,u120,u121,u122,u123,u124,aq,ar,au,av,aw,ax,ay,az,aA,aB,aC,aD,aE,aF,aG,aH,aI,aJ,aK,aL,aM,aN,aO,aP,aQ,aR,aS,aT,aU,aV,aW,aX,aY,aZ,a0,a1,a2,a3,a6,a7,a8,a9,ba,bb,bc,bd,be,bf,bg,bh,bi,bj,bk,bm,bn,bo,bp,bq,br,bs,bt,bu,bv,bx,bz,bA,bB,bC,bD,bE,bF,bG,bH,bI,bJ,bK,bL,bM],[]⟩ wq)
 (hr:∀(u12 u13 u14 u98 u99 u100 u101 u102 u103 u104 u105 u106 u107 u108 u109 u110 u111 u112 u113 u114 u115 u116 u117 u118 u119 u120 u121 u122 u123 u124:Value)(wq:World),Below w.heap.size w wq->Eg SQ n k M=false->Q .ret ⟨#[c0,c1,c2,c3,.slice none 0 0,.int .i64 2,.int .i64 (n:Int),.slice (some ⟨R,0,none⟩) n n,c8,.int .i64 (k:Int),bS,.pointer (some ⟨pb,0,none⟩),u12,u13,u14,bT,bU,bW,bX,bY,bZ,b0,b1,b2,b3,b4,b5,b6,b7,b8,b9,cc,cd,ce,cf,cg,ch,ci,cj,cl,cm,cn,co,cq,cr,ct,cu,cv,cw,cx,cy,cz,cA,cB,cC,cD,cE,cF,cG,cH,cI,cJ,cK,cL,cM,cN,cP,cR,cS,cT,cU,cV,cW,cX,cY,cZ,c9,da,db,dc,dd,de,df,dg,dh,di,dj,dk,dl,dq,dr,ds,dt,du,dw,dx,dy,dz,u98,u99,u100,u101,u102,u103,u104,u105,u106,u107,u108,u109,u110,u111,u112,u113,u114,u115,u116,u117,u118,u119,u120,u121,u122,u123,u124,aq,ar,au,av,aw,ax,ay,az,aA,aB,aC,aD,aE,aF,aG,aH,aI,aJ,aK,aL,aM,aN,aO,aP,aQ,aR,aS,aT,aU,aV,aW,aX,aY,aZ,a0,a1,a2,a3,a6,a7,a8,a9,ba,bb,bc,bd,be,bf,bg,bh,bi,bj,bk,bm,bn,bo,bp,bq,br,bs,bt,bu,bv,bx,bz,bA,bB,bC,bD,bE,bF,bG,bH,bI,bJ,bK,bL,bM],[]⟩ wq):
 Code.wp prog (Code.loop (Mg 3)) Q ⟨#[c0,c1,c2,c3,a4,a5,.int .i64 (n:Int),.slice (some ⟨R,0,none⟩) n n,c8,.int .i64 (k:Int),bS,.pointer (some ⟨pb,0,none⟩),.int .i64 (k:Int),ej,el,bT,bU,bW,bX,bY,bZ,b0,b1,b2,b3,b4,b5,b6,b7,b8,b9,cc,cd,ce,cf,cg,ch,ci,cj,cl,cm,cn,co,cq,cr,ct,cu,cv,cw,cx,cy,cz,cA,cB,cC,cD,cE,cF,cG,cH,cI,cJ,cK,cL,cM,cN,cP,cR,cS,cT,cU,cV,cW,cX,cY,cZ,c9,da,db,dc,dd,de,df,dg,dh,di,dj,dk,dl,dq,dr,ds,dt,du,dw,dx,dy,dz,em,en,dJ,dK,dL,dM,dN,dO,dP,dQ,dR,dS,dT,dU,dV,dW,dX,dY,dZ,d0,d1,d2,d3,d4,d5,d6,d7,aq,ar,au,av,aw,ax,ay,az,aA,aB,aC,aD,aE,aF,aG,aH,aI,aJ,aK,aL,aM,aN,aO,aP,aQ,aR,aS,aT,aU,aV,aW,aX,aY,aZ,a0,a1,a2,a3,a6,a7,a8,a9,ba,bb,bc,bd,be,bf,bg,bh,bi,bj,bk,bm,bn,bo,bp,bq,br,bs,bt,bu,bv,bx,bz,bA,bB,bC,bD,bE,bF,bG,bH,bI,bJ,bK,bL,bM],[]⟩ w0:=by
 conv=>arg 2;arg 1;whnf
 conv=>arg 4;zeta
 have eA:k<=8:=by omega
 replace dI:=zh dI;replace hx:=zh hx;replace hr:=zh hr;replace hO:=zh hO;replace dF:=zh dF
 go_loopw [12] (fun j wq=>∃z:Nat,k<=z/\z<=n+1/\j=.int .i64 (z:Int)/\Hid (KA w R n k pb v M z wq)) (fun j _=>n+1-(intOf j).toNat)
 case atStart=>exact⟨k,zB _,by omega,rfl,dI.o⟩
 case round=>
  obtain⟨z,eh,hz,rfl,hI⟩:=hrel
  by_cases hlt:z<=n
  .obtain ⟨hM,hF,al,ey⟩:=hI.o;clear hI;obtain⟨gk,ck,ek,d8,ao,d9,ea,eb⟩:=hM.o.form hk;obtain⟨k1,k2,k3⟩:=eb z hlt;rw[UB M (zB z) k]at k1 k2 k3;obtain⟨r2,E1,km,dC⟩:=VR (M k z) (M k k) (hO.o k z hk hlt) (hO.o k k hk (by omega)) ez;obtain⟨pg,pn,pd,dG⟩:=BI (M k k);obtain⟨ag,an,ad,dB⟩:=BI (M k z);have bP:=hF.o;rw[dG]at bP km;rw[dB]at k1 k2 k3 km;have f0:=bP.facts;have f7:=bP.lt;have eg:=(hM.o.hd k hk).trans (congrArg some ek);have dA:=hM.o.lt
   have HO:Hid (∀W,Below wr.heap.size wr W->W.cell? ⟨R,k,none⟩=some (.slice (some ⟨gk,0,none⟩) (n+1) ck)/\W.cell? ⟨gk,z*3,none⟩=some (.bool ag)/\W.cell? ⟨gk,z*3+1,none⟩=some (.string an)/\W.cell? ⟨gk,z*3+2,none⟩=some (.string ad)/\W.cell? ⟨pb,0,none⟩=some (.bool pg)/\W.cell? ⟨pb,1,none⟩=some (.string pn)/\W.cell? ⟨pb,2,none⟩=some (.string pd)):=fun W h=>
    ⟨(h.cell (p:=⟨R,_,none⟩) dA).trans eg,(h.cell (p:=⟨gk,_,none⟩) ao).trans k1,(h.cell (p:=⟨gk,_,none⟩) ao).trans k2,(h.cell (p:=⟨gk,_,none⟩) ao).trans k3,(h.cell (p:=⟨pb,_,none⟩) f7).trans f0.1,(h.cell (p:=⟨pb,_,none⟩) f7).trans f0.2.1,(h.cell (p:=⟨pb,_,none⟩) f7).trans f0.2.2.1⟩
   have dE:Hid (pb≠gk):=fun e=>dF.o k hk (by rw[ek,e];rfl);have dD:=zh ea;have af:=zh (show R<wr.heap.size/\gk<wr.heap.size/\pb<wr.heap.size/\w.heap.size<=gk/\gk≠R from⟨dA,ao,f7,d8,d9⟩);have j0:(0:Int)<=(z:Int):=by omega
   have j1:(z:Int)<(n:Int)+1:=by omega
   have j2:(z:Int)<=(n:Int):=by omega
   have j3:(0:Int)<=(k:Int):=by omega
   have j4:(k:Int)<(n:Int):=by omega
   obtain⟨r2g,r2n,r2d⟩:=r2;replace km:Hid (∀w,Calls prog 108 #[.agg #[.bool ag,.string an,.string ad],.agg #[.bool pg,.string pn,.string pd]] w fun e w'=>e=.returned (.tuple #[.agg #[.bool r2g,.string r2n,.string r2d],.int .i64 E1])/\Below w.heap.size w w'):=km;have bO:Hid (Below wr.heap.size wr wr):=zI _ _;have bN:Hid (Below wr.heap.size wr (wr.alloc (.cells #[.bool false,.string ⟨#[]⟩,.string ⟨#[]⟩] 34))):=(zI _ _).alloc (zB _) _;have ai:Hid (Below wr.heap.size wr (wr.alloc (.cells #[.bool false,.string ⟨#[]⟩,.string ⟨#[]⟩] 34)).drew):=bN.o.drew;have aj:Hid (Below wr.heap.size wr wr.drew):=bO.o.drew;have bR:Hid (B3 (wr.alloc (.cells #[.bool false,.string ⟨#[]⟩,.string ⟨#[]⟩] 34)).drew wr.heap.size false ⟨#[]⟩ ⟨#[]⟩):=B3.new wr _ _ _;clear f0 f7 bP k1 k2 k3 d8 ao d9 ea eb eg dA;obtain⟨p1,p2,p3,p4,p5,p6,p7⟩:=HO.o _ bO.o
   rcases dC with⟨rfl,dH,sh⟩|⟨rfl,ei⟩
   .replace dH:=zh dH;replace sh:=zh sh;replace dG:=zh dG;replace dB:=zh dB;have ep:Hid (B3 wr pb (rq (M k k)).1 (rq (M k k)).2.1 (rq (M k k)).2.2):=hF
    go_wp2_with fail
    go_region_held3 (fun w'=>w'.cell? ⟨R,k,none⟩=some (.slice (some ⟨gk,0,none⟩) (n+1) ck)/\w'.cell? ⟨gk,z*3,none⟩=some (.bool ag)/\w'.cell? ⟨gk,z*3+1,none⟩=some (.string an)/\w'.cell? ⟨gk,z*3+2,none⟩=some (.string ad)/\w'.cell? ⟨pb,0,none⟩=some (.bool pg)/\w'.cell? ⟨pb,1,none⟩=some (.string pn)/\w'.cell? ⟨pb,2,none⟩=some (.string pd)) (first|(with_reducible exact HO.o _ bO.o)|(with_reducible exact HO.o _ aj.o)|(with_reducible exact HO.o _ ai.o)|(with_reducible exact HO.o _ bN.o)|(with_reducible exact HO.o _ d.o)|(with_reducible exact HO.o _ (d.o.alloc d.o.size _))|(with_reducible exact HO.o _ (((d.o.setCell (zB _) _).setCell (zB _) _).setCell (zB _) _))|go_keep)
     (first
       |(go_at_call 108;refine(km.o _).q fun w2 ae=>?_;have ah:=zh (bR.o.below ae);have d:=ai.t ae;obtain⟨y1,y2,y3,y4,y5,y6⟩:=ah.o.facts;have y7:=ah.o.lt;clear ae)
       |(go_at_call 108;refine(km.o _).q fun w2 ae=>?_;have d:=aj.t ae;clear ae))
    all_goals (
     first
      |(obtain⟨qb,s⟩:∃b,b=w2.heap.size:=⟨_,rfl⟩;obtain⟨w5,aa⟩:∃W,W=w2.alloc (.cells #[.bool r2g,.string r2n,.string r2d] 34):=⟨_,rfl⟩;rw[<-aa,<-s];have am:Hid (B3 w5 qb r2g r2n r2d):=(by rw[aa,s];exact B3.new w2 _ _ _);have ab:Hid (Below wr.heap.size wr w5):=(by rw[aa];exact d.o.alloc d.o.size _);have ak:wr.heap.size<=qb:=(by rw[s];exact d.o.size))
      |(obtain⟨qb,s⟩:∃b,b=wr.heap.size:=⟨_,rfl⟩;obtain⟨w5,aa⟩:∃W,W=((w2.setCell ⟨wr.heap.size,0,none⟩ (.bool r2g)).setCell ⟨wr.heap.size,1,none⟩ (.string r2n)).setCell ⟨wr.heap.size,2,none⟩ (.string r2d):=⟨_,rfl⟩;rw[<-aa,<-s];have am:Hid (B3 w5 qb r2g r2n r2d):=(by rw[aa,s];exact((ah.o.set0 r2g).set1 r2n).set2 r2d);have ab:Hid (Below wr.heap.size wr w5):=(by rw[aa];exact((d.o.setCell (zB _) _).setCell (zB _) _).setCell (zB _) _);have ak:wr.heap.size<=qb:=(by rw[s];exact zB _);clear ah y1 y2 y3 y4 y5 y6 y7)
     clear aa s d aj ai bN bR km;replace ak:=zh ak;clear p1 p2 p3 p4 p5 p6 p7;obtain⟨y1,y2,y3,y4,y5,y6⟩:=am.o.facts;have y7:=am.o.lt;obtain⟨p1,p2,p3,p4,p5,p6,p7⟩:=HO.o _ ab.o;have ed:=zh (hM.o.below ab.o);have ec:=zh (ep.o.below ab.o);have q7:gk<w5.heap.size:=zL af.o.2.1 ab.o.size;have q1:w5.frozen? ⟨gk,z*3,none⟩=false:=(ab.o.frozen (p:=⟨gk,z*3,none⟩) af.o.2.1).trans (dD.o _);have q2:w5.frozen? ⟨gk,z*3+1,none⟩=false:=(ab.o.frozen (p:=⟨gk,z*3+1,none⟩) af.o.2.1).trans (dD.o _);have q3:w5.frozen? ⟨gk,z*3+2,none⟩=false:=(ab.o.frozen (p:=⟨gk,z*3+2,none⟩) af.o.2.1).trans (dD.o _);have bQ:qb≠gk:=wJ (zL af.o.2.1 ak.o)
     have es:Hid (MatV (((w5.setCell ⟨gk,z*3,none⟩ (.bool r2g)).setCell ⟨gk,z*3+1,none⟩ (.string r2n)).setCell ⟨gk,z*3+2,none⟩ (.string r2d)).drew w.heap.size R n n v (Hs k (z+1) M)):=by
      have h:=ed.o.store hk hlt ek (M k z/M k k);rw[QI M eh,<-dH.o]at h;exact h.drew
     have er:Hid (B3 (((w5.setCell ⟨gk,z*3,none⟩ (.bool r2g)).setCell ⟨gk,z*3+1,none⟩ (.string r2n)).setCell ⟨gk,z*3+2,none⟩ (.string r2d)).drew pb (rq (M k k)).1 (rq (M k k)).2.1 (rq (M k k)).2.2):=((B3.other (W:=w5) (p:=⟨gk,z*3,none⟩) ec.o dE.o _).other (p:=⟨gk,z*3+1,none⟩) dE.o _).other (p:=⟨gk,z*3+2,none⟩) dE.o _;have eo:Hid (Below w.heap.size w (((w5.setCell ⟨gk,z*3,none⟩ (.bool r2g)).setCell ⟨gk,z*3+1,none⟩ (.string r2n)).setCell ⟨gk,z*3+2,none⟩ (.string r2d)).drew):=((((al.o.trans (ab.o.mono al.o.size)).setCell (p:=⟨gk,z*3,none⟩) af.o.2.2.2.1 _).setCell (p:=⟨gk,z*3+1,none⟩) af.o.2.2.2.1 _).setCell (p:=⟨gk,z*3+2,none⟩) af.o.2.2.2.1 _).drew
     have ee:Hid (∀b,k<=b->b<z+1->ShortQ (M k b)/\ShortQ (M k k)):=fun b h1 h2=>by
      by_cases e:b=z
      .rw[e];exact sh.o
      exact ey.o b h1 (by omega)
     have eu:Hid ((((w5.setCell ⟨gk,z*3,none⟩ (.bool r2g)).setCell ⟨gk,z*3+1,none⟩ (.string r2n)).setCell ⟨gk,z*3+2,none⟩ (.string r2d)).drew.cell? ⟨R,k,none⟩=some (.slice (some ⟨gk,0,none⟩) (n+1) ck)/\(((w5.setCell ⟨gk,z*3,none⟩ (.bool r2g)).setCell ⟨gk,z*3+1,none⟩ (.string r2n)).setCell ⟨gk,z*3+2,none⟩ (.string r2d)).drew.cell? ⟨qb,0,none⟩=some (.bool r2g)/\(((w5.setCell ⟨gk,z*3,none⟩ (.bool r2g)).setCell ⟨gk,z*3+1,none⟩ (.string r2n)).setCell ⟨gk,z*3+2,none⟩ (.string r2d)).drew.cell? ⟨qb,1,none⟩=some (.string r2n)/\(((w5.setCell ⟨gk,z*3,none⟩ (.bool r2g)).setCell ⟨gk,z*3+1,none⟩ (.string r2n)).setCell ⟨gk,z*3+2,none⟩ (.string r2d)).drew.cell? ⟨qb,2,none⟩=some (.string r2d)):=by
      exact⟨(Mh (Ne.symm af.o.2.2.2.2)).trans p1,(Mh bQ).trans y1,(Mh bQ).trans y2,(Mh bQ).trans y3⟩
     have et:Hid (w5.cell? ⟨R,k,none⟩=some (.slice (some ⟨gk,0,none⟩) (n+1) ck)/\w5.cell? ⟨qb,0,none⟩=some (.bool r2g)/\w5.cell? ⟨qb,1,none⟩=some (.string r2n)/\w5.cell? ⟨qb,2,none⟩=some (.string r2d)):=⟨p1,y1,y2,y3⟩;have ew:Hid (w5.drew.cell? ⟨R,k,none⟩=some (.slice (some ⟨gk,0,none⟩) (n+1) ck)/\w5.drew.cell? ⟨qb,0,none⟩=some (.bool r2g)/\w5.drew.cell? ⟨qb,1,none⟩=some (.string r2n)/\w5.drew.cell? ⟨qb,2,none⟩=some (.string r2d)):=⟨p1,y1,y2,y3⟩;clear ed ec am ab bQ
     go_wp2_with fail
     go_region_held3 (fun w'=>w'.cell? ⟨R,k,none⟩=some (.slice (some ⟨gk,0,none⟩) (n+1) ck)/\w'.cell? ⟨qb,0,none⟩=some (.bool r2g)/\w'.cell? ⟨qb,1,none⟩=some (.string r2n)/\w'.cell? ⟨qb,2,none⟩=some (.string r2d)) (first|(with_reducible exact et.o)|(with_reducible exact ew.o)|(with_reducible exact eu.o)|go_keep) (fail)
     go_wp2
     go_roundw
     case rel=>exact⟨z+1,by omega,by omega,by go_num,es,er,eo,ee⟩
     case measure=>simp[intOf];omega
     )
   have ef:Hid (Eg SQ n k M=false):=QK eh hlt ei;clear ei
   go_wp2_with fail
   go_region_held3 (fun w'=>w'.cell? ⟨R,k,none⟩=some (.slice (some ⟨gk,0,none⟩) (n+1) ck)/\w'.cell? ⟨gk,z*3,none⟩=some (.bool ag)/\w'.cell? ⟨gk,z*3+1,none⟩=some (.string an)/\w'.cell? ⟨gk,z*3+2,none⟩=some (.string ad)/\w'.cell? ⟨pb,0,none⟩=some (.bool pg)/\w'.cell? ⟨pb,1,none⟩=some (.string pn)/\w'.cell? ⟨pb,2,none⟩=some (.string pd)) (first|(with_reducible exact HO.o _ bO.o)|(with_reducible exact HO.o _ aj.o)|(with_reducible exact HO.o _ ai.o)|(with_reducible exact HO.o _ bN.o)|(with_reducible exact HO.o _ d.o)|(with_reducible exact HO.o _ (d.o.alloc d.o.size _))|(with_reducible exact HO.o _ (((d.o.setCell (zB _) _).setCell (zB _) _).setCell (zB _) _))|go_keep)
    (first
      |(go_at_call 108;refine(km.o _).q fun w2 ae=>?_;have ah:=zh (bR.o.below ae);have d:=ai.t ae;obtain⟨y1,y2,y3,y4,y5,y6⟩:=ah.o.facts;have y7:=ah.o.lt;clear ae)
      |(go_at_call 108;refine(km.o _).q fun w2 ae=>?_;have d:=aj.t ae;clear ae))
   all_goals (
    first
     |(obtain⟨qb,s⟩:∃b,b=w2.heap.size:=⟨_,rfl⟩;obtain⟨w5,aa⟩:∃W,W=w2.alloc (.cells #[.bool r2g,.string r2n,.string r2d] 34):=⟨_,rfl⟩;rw[<-aa,<-s];have am:Hid (B3 w5 qb r2g r2n r2d):=(by rw[aa,s];exact B3.new w2 _ _ _);have ab:Hid (Below wr.heap.size wr w5):=(by rw[aa];exact d.o.alloc d.o.size _);have ak:wr.heap.size<=qb:=(by rw[s];exact d.o.size))
     |(obtain⟨qb,s⟩:∃b,b=wr.heap.size:=⟨_,rfl⟩;obtain⟨w5,aa⟩:∃W,W=((w2.setCell ⟨wr.heap.size,0,none⟩ (.bool r2g)).setCell ⟨wr.heap.size,1,none⟩ (.string r2n)).setCell ⟨wr.heap.size,2,none⟩ (.string r2d):=⟨_,rfl⟩;rw[<-aa,<-s];have am:Hid (B3 w5 qb r2g r2n r2d):=(by rw[aa,s];exact((ah.o.set0 r2g).set1 r2n).set2 r2d);have ab:Hid (Below wr.heap.size wr w5):=(by rw[aa];exact((d.o.setCell (zB _) _).setCell (zB _) _).setCell (zB _) _);have ak:wr.heap.size<=qb:=(by rw[s];exact zB _);clear ah y1 y2 y3 y4 y5 y6 y7)
    clear aa s d aj ai bN bR km;replace ak:=zh ak;go_wp2;apply hr.o
    .exact al.o.trans (ab.o.mono al.o.size)
    .exact ef.o
    )
  obtain rfl:z=n+1:=by omega
  go_wp2;apply hx.o;exact hI.o
def Oo(w:World)(R n k:Nat)(v:Nat->Value)(M:Mx)(f:Nat)(wq:World):Prop :=
 Hid (MatV wq w.heap.size R n n v M)/\Hid (Below w.heap.size w wq)/\Hid (∀j,k<=j->j<f->M j k=0)
theorem Oq{c0 c1 c2 c3 c4 c5 c8 bZ b0 b6 b7 b8 b9 cc cd ce cf cg ch ci cj ck cl cm cn co cq cr ct cu cv cw cx cy cz cA cB cC cD cE cF cG cH cI cJ cK cL cM cN cP cR cS cT cU cV cW cX cY cZ c9 da db dc dd de df dg dh di dj dk dl dq dr ds dt du dw dx dy dz s aa ab ad ae af ag ah ai aj ak al am an ao aq ar au av aw ax ay az aA aB aC aD aE aF aG aH aI aJ aK aL aM aN aO aP aQ aR aS aT aU aV aW aX aY aZ a0 a1 a2 a3 a4 a5 a6 a7 a8 a9 ba bb bc bd be bf bg bh bi bj bk bm bn bo bp bq br bs bt bu bv bx bz bA bB bC bD bE bF bG bH bI bJ bK bL bM bN bO bP bQ bR bS bT bU dB dC dD dE dF dG dH dI dJ dK dL dM dN dO dP:Value}{Q:Exit->Act->World->Prop}(R n k:Nat)(v:Nat->Value)(M:Mx)(w w0:World)(dS:n<=8)(hk:k<n)(bY:Oo w R n k v M k w0)
 (hx:∀(f:Nat)(u58 u59 u60 u61 u62 u63 u64 u65 u66 u67 u68 u69 u70 u71 u72:Value)(wq:World),k<=f->f<=n->(f<n->M f k≠0)->Oo w R n k v M f wq->Q (.exit 4) ⟨#[c0,c1,c2,c3,c4,c5,.int .i64 (n:Int),.slice (some ⟨R,0,none⟩) n n,c8,.int .i64 (k:Int),.int .i64 (f:Int),bZ,b0,b6,b7,b8,b9,cc,cd,ce,cf,cg,ch,ci,cj,ck,cl,cm,cn,co,cq,cr,ct,cu,cv,cw,cx,cy,cz,cA,cB,cC,cD,cE,cF,cG,cH,cI,cJ,cK,cL,cM,cN,cP,cR,cS,cT,cU,u58,u59,u60,u61,u62,u63,u64,u65,u66,u67,u68,u69,u70,u71,u72,cV,cW,cX,cY,cZ,c9,da,db,dc,dd,de,df,dg,dh,di,dj,dk,dl,dq,dr,ds,dt,du,dw,dx,dy,dz,s,aa,ab,ad,ae,af,ag,ah,ai,aj,ak,al,am,an,ao,aq,ar,au,av,aw,ax,ay,az,aA,aB,aC,aD,aE,aF,aG,aH,aI,aJ,aK,aL,aM,aN,aO,aP,aQ,aR,aS,aT,aU,aV,aW,aX,aY,aZ,a0,a1,a2,a3,a4,a5,a6,a7,a8,a9,ba,bb,bc,bd,be,bf,bg,bh,bi,bj,bk,bm,bn,bo,bp,bq,br,bs,bt,bu,bv,bx,bz,bA,bB,bC,bD,bE,bF,bG,bH,bI,bJ,bK,bL,bM,bN,bO,bP,bQ,bR,bS,bT,bU],[]⟩ wq):
 Code.wp prog (Code.loop (Mg 2)) Q ⟨#[c0,c1,c2,c3,c4,c5,.int .i64 (n:Int),.slice (some ⟨R,0,none⟩) n n,c8,.int .i64 (k:Int),.int .i64 (k:Int),bZ,b0,b6,b7,b8,b9,cc,cd,ce,cf,cg,ch,ci,cj,ck,cl,cm,cn,co,cq,cr,ct,cu,cv,cw,cx,cy,cz,cA,cB,cC,cD,cE,cF,cG,cH,cI,cJ,cK,cL,cM,cN,cP,cR,cS,cT,cU,dB,dC,dD,dE,dF,dG,dH,dI,dJ,dK,dL,dM,dN,dO,dP,cV,cW,cX,cY,cZ,c9,da,db,dc,dd,de,df,dg,dh,di,dj,dk,dl,dq,dr,ds,dt,du,dw,dx,dy,dz,s,aa,ab,ad,ae,af,ag,ah,ai,aj,ak,al,am,an,ao,aq,ar,au,av,aw,ax,ay,az,aA,aB,aC,aD,aE,aF,aG,aH,aI,aJ,aK,aL,aM,aN,aO,aP,aQ,aR,aS,aT,aU,aV,aW,aX,aY,aZ,a0,a1,a2,a3,a4,a5,a6,a7,a8,a9,ba,bb,bc,bd,be,bf,bg,bh,bi,bj,bk,bm,bn,bo,bp,bq,br,bs,bt,bu,bv,bx,bz,bA,bB,bC,bD,bE,bF,bG,bH,bI,bJ,bK,bL,bM,bN,bO,bP,bQ,bR,bS,bT,bU],[]⟩ w0:=by
 conv=>arg 2;arg 1;whnf
 conv=>arg 4;zeta
 have dR:k<=8:=by omega
 replace bY:=zh bY;replace hx:=zh hx
 go_loopw [10] (fun j wq=>∃f:Nat,k<=f/\f<=n/\j=.int .i64 (f:Int)/\Hid (Oo w R n k v M f wq)) (fun j _=>n-(intOf j).toNat)
 case atStart=>exact⟨k,zB _,by omega,rfl,bY.o⟩
 case round=>
  obtain⟨f,dA,hf,rfl,hI⟩:=hrel
  by_cases hlt:f<n
  .obtain ⟨hM,hB,hZ⟩:=hI.o;obtain⟨g,c,e,b1,b2,b3,b4,b5⟩:=hM.o.form hlt;obtain⟨k1,k2,k3⟩:=b5 k (by omega);have hd:=(hM.o.hd f hlt).trans (congrArg some e);have kz:=JK (M f k);obtain⟨pg,pn,pd,d⟩:=BI (M f k);rw[d]at k1 k2 k3
   have kz':Hid (∀W,Calls prog 107 #[.agg #[.bool pg,.string pn,.string pd]] W fun e w'=>e=.returned (.bool (decide (M f k=0)))/\Below W.heap.size W w'):=fun W=>by
    have h:=kz W;have e2:qv (M f k)=.agg #[.bool pg,.string pn,.string pd]:=congrArg (fun r:Raw=>(.agg #[.bool r.1,.string r.2.1,.string r.2.2]:Value)) d
    rwa [e2]at h
   have j0:(0:Int)<=(f:Int):=by omega
   have j1:(f:Int)<(n:Int):=by omega
   have j3:(0:Int)<=(k:Int):=by omega
   have j4:(k:Int)<(n:Int)+1:=by omega
   clear kz b1 b2 b3 b4 b5 e;replace d:=zh d
   by_cases h0:M f k=0
   .rw [zH h0]at kz'
    have dQ:Hid (∀j,k<=j->j<f+1->M j k=0):=fun j h1 h2=>by
     by_cases e:j=f
     .rw[e];exact h0
     exact hZ.o j h1 (by omega)
    replace h0:=zh h0
    go_wp2_with fail
    refine(kz'.o _).q fun w2 a=>?_;have bX:=zh (hM.o.below a);have bW:=hB.t a;clear a k1 k2 k3 hd;go_wp2
    go_roundw
    case rel=>exact⟨f+1,by omega,by omega,by go_num,bX,bW,dQ⟩
    case measure=>simp[intOf];omega
   rw[zD h0]at kz';replace h0:=zh h0
   go_wp2_with fail
   refine(kz'.o _).q fun w2 a=>?_;have bX:=zh (hM.o.below a);have bW:=hB.t a;clear a k1 k2 k3 hd;go_wp2;apply hx.o f
   .exact dA
   .exact hf
   .exact fun _=>h0.o
   exact⟨bX,bW,hZ⟩
  have s1:¬((f:Int)<(n:Int)):=by omega
  go_wp2;apply hx.o f
  .exact dA
  .exact hf
  .exact fun h=>absurd h hlt
  exact hI.o
def VS(w:World)(R n k:Nat)(v:Nat->Value)(M2:Mx)(y:Nat)(wq:World):Prop :=
 ∃M3:Mx,Hid (AB SQ n k y M2=some M3)/\Hid (MatV wq w.heap.size R n n v M3)/\Hid (∀a b,a<n->b<=n->OkQ (M3 a b))/\Hid (Below w.heap.size w wq)
theorem Fj{n k i:Nat}{M2 M3 M4:Mx}(h:AB SQ n k i M2=some M3)(h2:Bp SQ n k i M3=some M4):AB SQ n k (i+1) M2=some M4:=by
 unfold AB;rw[h];exact h2
theorem Tw{c0 c1 c2 c3 c8 a1 a2 a3 a6 a7 a8 a9 ba bb bc bd be bf bg bh bi bj bk bm bn bo bp bq br bs bt bu bv bx bz bA bB bC bD bE bF bG bH bI bJ bK bL bM bN bO bP bQ bR bS bT bU bW bX bY bZ b0 b6 b7 b8 b9 cc cd ce cf cg ch ci cj ck cl cm cn co cq cr ct cu cv cw cx cy cz cA cB cC ab ad ae af ag ah ai aj ak al am an ao aq ar au av aw ax ay az aA aB aC aD aE aF aG aH aI aJ aK aL aM aN aO aP aQ aR aS aT a4 a5 eI a17 a18 a19 cH cI cJ cK cL cM cN cP cR cS cT cU cV cW cX cY cZ c9 da db dc dd de df dg dh di dj dk dl dq dr ds dt du dw dx dy dz dA dB dC dD dE dF dG dH dI dJ dK dL dM dN dO dP dQ dR dS dT dU dV dW:Value}{Q:Exit->Act->World->Prop}(R n k:Nat)(v:Nat->Value)(M2:Mx)(w w0:World)(eL:n<=8)(hk:k<n)(cG:VS w R n k v M2 0 w0)
 (hx:∀(u4 u5 u16 u17 u18 u19 u125 u126 u127 u128 u129 u130 u131 u132 u133 u134 u135 u136 u137 u138 u139 u140 u141 u142 u143 u144 u145 u146 u147 u148 u149 u150 u151 u152 u153 u154 u155 u156 u157 u158 u159 u160 u161 u162 u163 u164 u165 u166 u167 u168 u169 u170 u171 u172 u173 u174 u175 u176 u177 u178 u179 u180 u181 u182 u183 u184 u185 u186:Value) (wq:World),VS w R n k v M2 n wq->Q (.exit 8) ⟨#[c0,c1,c2,c3,u4,u5,.int .i64 (n:Int),.slice (some ⟨R,0,none⟩) n n,c8,.int .i64 (k:Int),a1,a2,a3,a6,a7,.int .i64 (n:Int),u16,u17,u18,u19,a8,a9,ba,bb,bc,bd,be,bf,bg,bh,bi,bj,bk,bm,bn,bo,bp,bq,br,bs,bt,bu,bv,bx,bz,bA,bB,bC,bD,bE,bF,bG,bH,bI,bJ,bK,bL,bM,bN,bO,bP,bQ,bR,bS,bT,bU,bW,bX,bY,bZ,b0,b6,b7,b8,b9,cc,cd,ce,cf,cg,ch,ci,cj,ck,cl,cm,cn,co,cq,cr,ct,cu,cv,cw,cx,cy,cz,cA,cB,cC,ab,ad,ae,af,ag,ah,ai,aj,ak,al,am,an,ao,aq,ar,au,av,aw,ax,ay,az,aA,aB,aC,aD,u125,u126,u127,u128,u129,u130,u131,u132,u133,u134,u135,u136,u137,u138,u139,u140,u141,u142,u143,u144,u145,u146,u147,u148,u149,u150,u151,u152,u153,u154,u155,u156,u157,u158,u159,u160,u161,u162,u163,u164,u165,u166,u167,u168,u169,u170,u171,u172,u173,u174,u175,u176,u177,u178,u179,u180,u181,u182,u183,u184,u185,u186,aE,aF,aG,aH,aI,aJ,aK,aL,aM,aN,aO,aP,aQ,aR,aS,aT],[]⟩ wq)
 (hr:∀(u15 u16 u17 u18 u19 u125 u126 u127 u128 u129 u130 u131 u132 u133 u134 u135 u136 u137 u138 u139 u140 u141 u142 u143 u144 u145 u146 u147 u148 u149 u150 u151 u152 u153 u154 u155 u156 u157 u158 u159 u160 u161 u162 u163 u164 u165 u166 u167 u168 u169 u170 u171 u172 u173 u174 u175 u176 u177 u178 u179 u180 u181 u182 u183 u184 u185 u186:Value) (wq:World),Below w.heap.size w wq->AB SQ n k n M2=none->Q .ret ⟨#[c0,c1,c2,c3,.slice none 0 0,.int .i64 2,.int .i64 (n:Int),.slice (some ⟨R,0,none⟩) n n,c8,.int .i64 (k:Int),a1,a2,a3,a6,a7,u15,u16,u17,u18,u19,a8,a9,ba,bb,bc,bd,be,bf,bg,bh,bi,bj,bk,bm,bn,bo,bp,bq,br,bs,bt,bu,bv,bx,bz,bA,bB,bC,bD,bE,bF,bG,bH,bI,bJ,bK,bL,bM,bN,bO,bP,bQ,bR,bS,bT,bU,bW,bX,bY,bZ,b0,b6,b7,b8,b9,cc,cd,ce,cf,cg,ch,ci,cj,ck,cl,cm,cn,co,cq,cr,ct,cu,cv,cw,cx,cy,cz,cA,cB,cC,ab,ad,ae,af,ag,ah,ai,aj,ak,al,am,an,ao,aq,ar,au,av,aw,ax,ay,az,aA,aB,aC,aD,u125,u126,u127,u128,u129,u130,u131,u132,u133,u134,u135,u136,u137,u138,u139,u140,u141,u142,u143,u144,u145,u146,u147,u148,u149,u150,u151,u152,u153,u154,u155,u156,u157,u158,u159,u160,u161,u162,u163,u164,u165,u166,u167,u168,u169,u170,u171,u172,u173,u174,u175,u176,u177,u178,u179,u180,u181,u182,u183,u184,u185,u186,aE,aF,aG,aH,aI,aJ,aK,aL,aM,aN,aO,aP,aQ,aR,aS,aT],[]⟩ wq):
 Code.wp prog (Code.loop (Mg 4)) Q ⟨#[c0,c1,c2,c3,a4,a5,.int .i64 (n:Int),.slice (some ⟨R,0,none⟩) n n,c8,.int .i64 (k:Int),a1,a2,a3,a6,a7,.int .i64 0,eI,a17,a18,a19,a8,a9,ba,bb,bc,bd,be,bf,bg,bh,bi,bj,bk,bm,bn,bo,bp,bq,br,bs,bt,bu,bv,bx,bz,bA,bB,bC,bD,bE,bF,bG,bH,bI,bJ,bK,bL,bM,bN,bO,bP,bQ,bR,bS,bT,bU,bW,bX,bY,bZ,b0,b6,b7,b8,b9,cc,cd,ce,cf,cg,ch,ci,cj,ck,cl,cm,cn,co,cq,cr,ct,cu,cv,cw,cx,cy,cz,cA,cB,cC,ab,ad,ae,af,ag,ah,ai,aj,ak,al,am,an,ao,aq,ar,au,av,aw,ax,ay,az,aA,aB,aC,aD,cH,cI,cJ,cK,cL,cM,cN,cP,cR,cS,cT,cU,cV,cW,cX,cY,cZ,c9,da,db,dc,dd,de,df,dg,dh,di,dj,dk,dl,dq,dr,ds,dt,du,dw,dx,dy,dz,dA,dB,dC,dD,dE,dF,dG,dH,dI,dJ,dK,dL,dM,dN,dO,dP,dQ,dR,dS,dT,dU,dV,dW,aE,aF,aG,aH,aI,aJ,aK,aL,aM,aN,aO,aP,aQ,aR,aS,aT],[]⟩ w0:=by
 conv=>arg 2;arg 1;whnf
 conv=>arg 4;zeta
 have eQ:k<=8:=by omega
 replace cG:=zh cG;replace hx:=zh hx;replace hr:=zh hr
 go_loopw [15] (fun j wq=>∃y:Nat,y<=n/\j=.int .i64 (y:Int)/\Hid (VS w R n k v M2 y wq)) (fun j _=>n-(intOf j).toNat)
 case atStart=>exact⟨0,zO _,rfl,cG.o⟩
 case round=>
  obtain⟨i,hi,rfl,hI⟩:=hrel
  by_cases hlt:i<n
  .obtain ⟨M3,aZ,hM,hO,hB⟩:=hI.o;clear hI;obtain⟨g,c,e,b1,b2,b3,b4,b5⟩:=hM.o.form hlt;obtain⟨k1,k2,k3⟩:=b5 k (by omega);have hd:=(hM.o.hd i hlt).trans (congrArg some e);obtain⟨fg,fn,fd,aW⟩:=BI (M3 i k);rw[aW]at k1 k2 k3;have j0:(0:Int)<=(i:Int):=by omega
   have j1:(i:Int)<(n:Int):=by omega
   have j3:(0:Int)<=(k:Int):=by omega
   have j4:(k:Int)<(n:Int)+1:=by omega
   have aY:=zh (hM.o.alloc (.cells #[.bool fg,.string fn,.string fd] 34));have aa:=zh (hB.o.alloc hB.o.size (.cells #[.bool fg,.string fn,.string fd] 34));have a0:=zh (B3.new wr fg fn fd);have eN:Hid (∀a,a<n->(v a).ownBlock≠some wr.heap.size):=fun a ha hb=>by have:=((hM.o.rows a ha).lt _ hb).2;omega
   clear b1 b2 b3 b4 b5 e;replace aW:=zh aW
   by_cases hik:i=k
   .have h1:(i==k)=true:=by rw[yL];exact hik
    have h2:((i:Int)==(k:Int))=true:=by rw[yL];omega
    have d:Hid (AB SQ n k (i+1) M2=some M3):=Fj aZ.o (by unfold Bp;rw[zE (.inl hik)]);replace hik:=zh hik;go_wp2
    go_roundw
    case rel=>exact⟨i+1,by omega,by go_num,M3,d,aY,hO,aa⟩
    case measure=>simp[intOf];omega
   have h1:(i==k)=false:=by rw[zJ];exact hik
   have h2:((i:Int)==(k:Int))=false:=by rw[zJ];omega
   have kz':Hid (∀W,Calls prog 107 #[.agg #[.bool fg,.string fn,.string fd]] W fun e w'=>e=.returned (.bool (decide (M3 i k=0)))/\Below W.heap.size W w'):=fun W=>by
    have h:=JK (M3 i k) W;have e2:qv (M3 i k)=.agg #[.bool fg,.string fn,.string fd]:=congrArg (fun r:Raw=>(.agg #[.bool r.1,.string r.2.1,.string r.2.2]:Value)) aW.o
    rwa [e2]at h
   obtain⟨x1,x2,x3,x4,x5,x6⟩:=a0.o.facts;have x7:=a0.o.lt;have aX:=hik;replace hik:=zh hik
   by_cases h0:M3 i k=0
   .rw[zH h0]at kz';have d:Hid (AB SQ n k (i+1) M2=some M3):=Fj aZ.o (by unfold Bp;rw[zE (.inr h0)]);replace h0:=zh h0;clear aX
    go_wp2_with fail
    refine(kz'.o _).q fun w5 hb=>?_;have aV:=zh (aY.o.below hb);have aU:=aa.t hb;clear hb x1 x2 x3 x4 x5 x6 x7 k1 k2 k3 hd;go_wp2
    go_roundw
    case rel=>exact⟨i+1,by omega,by go_num,M3,d,aV,hO,aU⟩
    case measure=>simp[intOf];omega
   rw[zD h0]at kz'
   have s:Bp SQ n k i M3=if Eh SQ n k i M3=true then some (CE k i M3) else none:=by
    unfold Bp;rw[zC (fun h=>h.elim aX h0)]
   replace s:=zh s;replace h0:=zh h0;clear aX
   go_wp2_with fail
   refine(kz'.o _).q fun w5 hb=>?_;have aV:=zh (aY.o.below hb);have aU:=aa.t hb;have dX:=zh (a0.o.below hb);have cE:Hid (B3 w5 wr.heap.size (rq (M3 i k)).1 (rq (M3 i k)).2.1 (rq (M3 i k)).2.2):=by rw[aW.o];exact dX.o
   clear hb x1 x2 x3 x4 x5 x6 x7 k1 k2 k3 hd hM hB aY aa a0 dX kz';go_wp2;refine Tu R n k i wr.heap.size v M3 w w5 eL hk hlt hik.o hO.o eN.o ⟨by rw[Ol];exact aV.o,cE,aU,fun b h1 h2=>absurd h2 (by omega)⟩ ?_ ?_
   .intro z4 z5 eO eP dZ d0 d1 d2 d3 d4 d5 d6 d7 d8 d9 ea eb ec ed ee ef eg eh ei ej ek el em en eo ep er es et eu ew ey ez eA eB eC eD eE eF eG eH wq hq;obtain⟨qM,_,qB,qS⟩:=hq
    have dY:Eh SQ n k i M3=true:=(Dy SQ).2 fun j a b=>by
     obtain⟨s1,s2,s3,s4⟩:=qS.o j a (by omega);exact⟨zH s1,zH s2,zH s3,zH s4⟩
    have d:Hid (AB SQ n k (i+1) M2=some (CE k i M3)):=Fj aZ.o (by rw[s.o,zE dY]);have eJ:Hid (MatV wq w.heap.size R n n v (CE k i M3)):=qM.o.congr fun a b _ hb=>Ts M3 a b hb;have eK:Hid (∀a b,a<n->b<=n->OkQ (CE k i M3 a b)):=Iw hO.o (by rw[s.o,zE dY]);clear aV aU cE qM qS;go_wp2
    go_roundw
    case rel=>exact⟨i+1,by omega,by go_num,CE k i M3,d,eJ,eK,qB⟩
    case measure=>simp[intOf];omega
   intro eR eO eP dZ d0 d1 d2 d3 d4 d5 d6 d7 d8 d9 ea eb ec ed ee ef eg eh ei ej ek el em en eo ep er es et eu ew ey ez eA eB eC eD eE eF eG eH wq cD eM;have cF:Hid (AB SQ n k n M2=none):=Jt (i:=i+1) (by omega) (by unfold AB;rw[aZ.o];show Bp SQ n k i M3=none;rw[s.o,eM];rfl);replace cD:=zh cD;clear aV aU cE;go_wp2;apply hr.o
   .exact cD.o
   exact cF.o
  obtain rfl:i=n:=by omega
  go_wp2;apply hx.o;exact hI.o
noncomputable def VT:Code:=((Tryz.f57.body.map Bt).bind fun l=>l[18]?).getD .skip
theorem QL{c0 c1 c2 c3 c4 c5 c6 c8 bU bW bX bY bZ b0 b1 b2 b3 b4 b5 b6 b7 b8 b9 cc cd ce cf cg ch ci cj cl cm cn co cq cr ct cu cv cw cx cy cz cA cB cC cD cE cF cG cH cI cJ cK cL cM cN cP cR cS cT cU cV cW cX cY cZ c9 da db dc dd de df dg dh di dj dk dl dq dr d s aa ab ad ae af ag ah ai aj ak al am an ao aq ar au av aw ax ay az aA aB aC aD aE aF aG aH aI aJ aK aL aM aN aO aP aQ aR aS aT aU aV aW aX aY aZ a0 a1 a2 a3 a4 a5 a6 a7 a8 a9 ba bb bc bd be bf bg bh bi bj bk bm bn bo bp bq br bs bt bu bv bx bz bA bB bC bD bE bF bG bH bI bJ bK bL bM bN bO bP bQ bR bS bT ds dt a78 a79 du dw dx dy dz dA dB dC dD a89:Value}{Q:Exit->Act->World->Prop}(R n k p gk ck gp cp:Nat)(w:World)
 (g2:w.cell? ⟨R,p,none⟩=some (.slice (some ⟨gp,0,none⟩) (n+1) cp))(g3:w.cell? ⟨R,k,none⟩=some (.slice (some ⟨gk,0,none⟩) (n+1) ck))
 (g4:w.frozen? ⟨R,p,none⟩=false)(g5:w.frozen? ⟨R,k,none⟩=false)(dE:k<n)(dF:p<n)
 (h:∀u76 u77 u78 u79 u80 u81 u82 u83 u84 u85 u86 u87 u88 u89:Value,Q .normal ⟨#[c0,c1,c2,c3,c4,c5,c6,.slice (some ⟨R,0,none⟩) n n,c8,.int .i64 (k:Int),.int .i64 (p:Int),bU,bW,bX,bY,bZ,b0,b1,b2,b3,b4,b5,b6,b7,b8,b9,cc,cd,ce,cf,cg,ch,ci,cj,cl,cm,cn,co,cq,cr,ct,cu,cv,cw,cx,cy,cz,cA,cB,cC,cD,cE,cF,cG,cH,cI,cJ,cK,cL,cM,cN,cP,cR,cS,cT,cU,cV,cW,cX,cY,cZ,c9,da,db,dc,dd,u76,u77,u78,u79,u80,u81,u82,u83,u84,u85,u86,u87,u88,u89,de,df,dg,dh,di,dj,dk,dl,dq,dr,d,s,aa,ab,ad,ae,af,ag,ah,ai,aj,ak,al,am,an,ao,aq,ar,au,av,aw,ax,ay,az,aA,aB,aC,aD,aE,aF,aG,aH,aI,aJ,aK,aL,aM,aN,aO,aP,aQ,aR,aS,aT,aU,aV,aW,aX,aY,aZ,a0,a1,a2,a3,a4,a5,a6,a7,a8,a9,ba,bb,bc,bd,be,bf,bg,bh,bi,bj,bk,bm,bn,bo,bp,bq,br,bs,bt,bu,bv,bx,bz,bA,bB,bC,bD,bE,bF,bG,bH,bI,bJ,bK,bL,bM,bN,bO,bP,bQ,bR,bS,bT],[]⟩ (((w.setCell ⟨R,p,none⟩ (.slice (some ⟨gk,0,none⟩) (n+1) ck)).setCell ⟨R,k,none⟩ (.slice (some ⟨gp,0,none⟩) (n+1) cp)).drew)):
 Code.wp prog VT Q ⟨#[c0,c1,c2,c3,c4,c5,c6,.slice (some ⟨R,0,none⟩) n n,c8,.int .i64 (k:Int),.int .i64 (p:Int),bU,bW,bX,bY,bZ,b0,b1,b2,b3,b4,b5,b6,b7,b8,b9,cc,cd,ce,cf,cg,ch,ci,cj,cl,cm,cn,co,cq,cr,ct,cu,cv,cw,cx,cy,cz,cA,cB,cC,cD,cE,cF,cG,cH,cI,cJ,cK,cL,cM,cN,cP,cR,cS,cT,cU,cV,cW,cX,cY,cZ,c9,da,db,dc,dd,ds,dt,a78,a79,du,dw,dx,dy,dz,dA,dB,dC,dD,a89,de,df,dg,dh,di,dj,dk,dl,dq,dr,d,s,aa,ab,ad,ae,af,ag,ah,ai,aj,ak,al,am,an,ao,aq,ar,au,av,aw,ax,ay,az,aA,aB,aC,aD,aE,aF,aG,aH,aI,aJ,aK,aL,aM,aN,aO,aP,aQ,aR,aS,aT,aU,aV,aW,aX,aY,aZ,a0,a1,a2,a3,a4,a5,a6,a7,a8,a9,ba,bb,bc,bd,be,bf,bg,bh,bi,bj,bk,bm,bn,bo,bp,bq,br,bs,bt,bu,bv,bx,bz,bA,bB,bC,bD,bE,bF,bG,bH,bI,bJ,bK,bL,bM,bN,bO,bP,bQ,bR,bS,bT],[]⟩ w:=by
 have s0:(0:Int)<=(p:Int):=by omega
 have s7:(0:Int)<=(k:Int):=by omega
 have s2:(p:Int)<(n:Int):=by omega
 have s3:(k:Int)<(n:Int):=by omega
 obtain⟨v2,dG⟩:∃u,(w.setCell ⟨R,p,none⟩ (.slice (some ⟨gk,0,none⟩) (n+1) ck)).cell? ⟨R,k,none⟩=some u:=EV g2 g3 _
 conv=>arg 2;whnf
 conv=>arg 4;zeta
 replace h:=zh h;refine yS ?_;refine yU (S:=fun _=>True) (by kernel_rfl) trivial (fun _=>?_);refine yp (i:=0) (oi:=_) (v:=?_) rfl (by kernel_rfl) (by kernel_rfl) (by kernel_rfl) (fun _ _ _ h=>h) (Or.inl ⟨by rfl,?_⟩) trivial ?_;rotate_left
 . (intro w a;go_simp<;>with_reducible rfl)
 try simp only[Act.put,zA]
 refine yp (i:=1) (oi:=_) (v:=?_) rfl (by kernel_rfl) (by kernel_rfl) (by kernel_rfl) (fun _ _ _ h=>h) (Or.inl ⟨by rfl,?_⟩) trivial ?_;rotate_left
 . (intro w a;go_simp<;>with_reducible rfl)
 try simp only[Act.put]
 refine yp (i:=2) (oi:=_) (v:=?_) rfl (by kernel_rfl) (by kernel_rfl) (by kernel_rfl) (fun _ _ _ h=>h) (Or.inl ⟨by rfl,?_⟩) trivial ?_;rotate_left
 . (intro w a;go_simp<;>with_reducible rfl)
 try simp only[Act.put]
 refine yp (i:=3) (oi:=_) (v:=?_) rfl (by kernel_rfl) (by kernel_rfl) (by kernel_rfl) (fun _ _ _ h=>h) (Or.inl ⟨by rfl,?_⟩) trivial ?_;rotate_left
 . (intro w a;go_simp<;>with_reducible rfl)
 try simp only[Act.put]
 refine yp (i:=4) (oi:=_) (v:=?_) rfl (by kernel_rfl) (by kernel_rfl) (by kernel_rfl) (fun _ _ _ h=>h) (Or.inl ⟨by rfl,?_⟩) trivial ?_;rotate_left
 . (intro w a;go_simp<;>with_reducible rfl)
 try simp only[Act.put]
 refine yp (i:=5) (oi:=_) (v:=?_) rfl (by kernel_rfl) (by kernel_rfl) (by kernel_rfl) (fun _ _ _ h=>h) (Or.inl ⟨by rfl,?_⟩) trivial ?_;rotate_left
 . (intro w a;go_simp<;>with_reducible rfl)
 try simp only[Act.put]
 refine yp (i:=6) (oi:=_) (v:=?_) rfl (by kernel_rfl) (by kernel_rfl) (by kernel_rfl) (fun _ _ _ h=>h) (Or.inl ⟨by rfl,?_⟩) trivial ?_;rotate_left
 . (intro w a;go_simp<;>with_reducible rfl)
 try simp only[Act.put]
 refine yp (i:=8) (oi:=_) (v:=?_) rfl (by kernel_rfl) (by kernel_rfl) (by kernel_rfl) (fun _ _ _ h=>h) (Or.inl ⟨by rfl,?_⟩) trivial ?_;rotate_left
 . (intro w a;go_simp<;>with_reducible rfl)
 try simp only[Act.put]
 refine yp (i:=9) (oi:=_) (v:=?_) rfl (by kernel_rfl) (by kernel_rfl) (by kernel_rfl) (fun _ _ _ h=>h) (Or.inl ⟨by rfl,?_⟩) trivial ?_;rotate_left
 . (intro w a;go_simp<;>with_reducible rfl)
 try simp only[Act.put]
 refine yp (i:=10) (oi:=_) (v:=?_) rfl (by kernel_rfl) (by kernel_rfl) (by kernel_rfl) (fun _ _ _ h=>h) (Or.inl ⟨by rfl,?_⟩) trivial ?_;rotate_left
 . (intro w a;go_simp<;>with_reducible rfl)
 try simp only[Act.put]
 refine zP (rs:=[7,11]) (by kernel_rfl) (by simp) ?_;refine zK (o:=_) rfl (fun K hK=>?_) ?_
 .go_simp;refine hK.o _ _ trivial (fun _=>?_);clear hK K
  try simp only[Act.put,zA,zG,zF]
  refine zP (rs:=[11]) (by kernel_rfl) (by simp) ?_;refine zK (o:=_) rfl (fun K hK=>?_) ?_
  .go_simp;refine hK.o _ _ trivial (fun _=>?_);clear hK K
   try simp only[Act.put,zA,zG,zF]
   refine yp (i:=12) (oi:=_) (v:=?_) rfl (by kernel_rfl) (by kernel_rfl) (by kernel_rfl) (fun _ _ _ h=>h) (Or.inl ⟨by rfl,?_⟩) trivial ?_;rotate_left
   . (intro w a;go_simp<;>with_reducible rfl)
   try simp only[Act.put,zA]
   refine zP (rs:=[13]) (by kernel_rfl) (by simp) ?_;refine zK (o:=_) rfl (fun K hK=>?_) ?_
   .go_simp;refine hK.o _ _ trivial (fun _=>?_);clear hK K
    try simp only[Act.put,zA,zG,zF]
    refine yp (i:=14) (oi:=_) (v:=?_) rfl (by kernel_rfl) (by kernel_rfl) (by kernel_rfl) (fun _ _ _ h=>h) (Or.inl ⟨by rfl,?_⟩) trivial ?_;rotate_left
    . (intro w a;go_simp<;>with_reducible rfl)
    try simp only[Act.put,zA]
    refine zP (rs:=[15]) (by kernel_rfl) (by simp) ?_;refine zK (o:=_) rfl (fun K hK=>?_) ?_
    .go_simp;refine hK.o _ _ trivial (fun _=>?_);clear hK K
     try simp only[Act.put,zA,zG,zF]
     refine ym (by kernel_rfl) ?_ _;refine yF ?_;exact h.o ..
    exact zN
   exact zN
  exact zN
 refine zK (o:=_) rfl (fun K hK=>?_) ?_
 .go_simp;refine hK.o _ _ trivial (fun _=>?_);clear hK K
  try simp only[Act.put,zA,zG,zF]
  refine zP (rs:=[7]) (by kernel_rfl) (by simp) ?_;refine zK (o:=_) rfl (fun K hK=>?_) ?_
  .go_simp;refine hK.o _ _ trivial (fun _=>?_);clear hK K
   try simp only[Act.put,zA,zG,zF]
   refine yp (i:=12) (oi:=_) (v:=?_) rfl (by kernel_rfl) (by kernel_rfl) (by kernel_rfl) (fun _ _ _ h=>h) (Or.inl ⟨by rfl,?_⟩) trivial ?_;rotate_left
   . (intro w a;go_simp<;>with_reducible rfl)
   try simp only[Act.put,zA]
   refine zP (rs:=[13]) (by kernel_rfl) (by simp) ?_;refine zK (o:=_) rfl (fun K hK=>?_) ?_
   .go_simp;refine hK.o _ _ trivial (fun _=>?_);clear hK K
    try simp only[Act.put,zA,zG,zF]
    refine yp (i:=14) (oi:=_) (v:=?_) rfl (by kernel_rfl) (by kernel_rfl) (by kernel_rfl) (fun _ _ _ h=>h) (Or.inl ⟨by rfl,?_⟩) trivial ?_;rotate_left
    . (intro w a;go_simp<;>with_reducible rfl)
    try simp only[Act.put,zA]
    refine zP (rs:=[15]) (by kernel_rfl) (by simp) ?_;refine zK (o:=_) rfl (fun K hK=>?_) ?_
    .go_simp;refine hK.o _ _ trivial (fun _=>?_);clear hK K
     try simp only[Act.put,zA,zG,zF]
     refine ym (by kernel_rfl) ?_ _;refine yF ?_;exact h.o ..
    exact zN
   exact zN
  exact zN
 exact zN
def VU(w:World)(R n:Nat)(M0:Mx)(y:Nat)(wq:World):Prop :=
 ∃(v:Nat->Value)(M:Mx),Hid (Ax SQ n y M0=.ok M)/\Hid (MatV wq w.heap.size R n n v M)/\Hid (∀a b,a<n->b<=n->OkQ (M a b))/\Hid (Below w.heap.size w wq)
theorem Tx{c0 c1 c2 c3 c8 aE aF aG aH aI aJ aK aL aM aN aO aP aQ aR aS aT aU aV aW aX aY aZ a0 a1 a2 a3 a6 a7 a8 a9 ba bb ae af ag ah ai aj ak al am an ao aq ar au av aw a4 a5 eX eY eZ e0 e4 e5 e6 a17 a18 a19 e7 e8 e9 fa fc fe ff fh fi fj fk fl fm fo fp fq ft fu fv fw fx fy fz fA fB fC a78 a79 fD fE fF fG fH fI fJ fK fL a89 fM fN fO fP fQ fR fS fT fU fV bq br bs bt bu bv bx bz bA bB bC bD bE bF bG bH bI bJ bK bL bM bN bO bP bQ bR bS bT bU bW bX bY bZ b0 b6 b7 b8 b9 cc cd ce cf cg ch ci cj cl cm cn co cq cr ct cu cv cw cx cy cz cA cB cC cD cE cF cG cH cI cJ cK cL cM cN cP cR cS cT cU cV cW cX cY cZ c9 da db dc:Value}{Q:Exit->Act->World->Prop}(R n:Nat)(M0:Mx)(w w0:World)(bk:n<=8)(aB:VU w R n M0 0 w0)
 (hx:∀(u4 u5 u10 u11 u12 u13 u14 u15 u16 u17 u18 u19 u52 u53 u54 u55 u56 u57 u58 u59 u60 u61 u62 u63 u64 u65 u66 u67 u68 u69 u70 u71 u72 u73 u74 u75 u76 u77 u78 u79 u80 u81 u82 u83 u84 u85 u86 u87 u88 u89 u90 u91 u92 u93 u94 u95 u96 u97 u98 u99 u100 u101 u102 u103 u104 u105 u106 u107 u108 u109 u110 u111 u112 u113 u114 u115 u116 u117 u118 u119 u120 u121 u122 u123 u124 u125 u126 u127 u128 u129 u130 u131 u132 u133 u134 u135 u136 u137 u138 u139 u140 u141 u142 u143 u144 u145 u146 u147 u148 u149 u150 u151 u152 u153 u154 u155 u156 u157 u158 u159 u160 u161 u162 u163 u164 u165 u166 u167 u168 u169 u170 u171 u172 u173 u174 u175 u176 u177 u178 u179 u180 u181 u182 u183 u184 u185 u186:Value) (wq:World),VU w R n M0 n wq->Q (.exit 2) ⟨#[c0,c1,c2,c3,u4,u5,.int .i64 (n:Int),.slice (some ⟨R,0,none⟩) n n,c8,.int .i64 (n:Int),u10,u11,u12,u13,u14,u15,u16,u17,u18,u19,aE,aF,aG,aH,aI,aJ,aK,aL,aM,aN,aO,aP,aQ,aR,aS,aT,aU,aV,aW,aX,aY,aZ,a0,a1,a2,a3,a6,a7,a8,a9,ba,bb,u52,u53,u54,u55,u56,u57,u58,u59,u60,u61,u62,u63,u64,u65,u66,u67,u68,u69,u70,u71,u72,u73,u74,u75,u76,u77,u78,u79,u80,u81,u82,u83,u84,u85,u86,u87,u88,u89,u90,u91,u92,u93,u94,u95,u96,u97,u98,u99,u100,u101,u102,u103,u104,u105,u106,u107,u108,u109,u110,u111,u112,u113,u114,u115,u116,u117,u118,u119,u120,u121,u122,u123,u124,u125,u126,u127,u128,u129,u130,u131,u132,u133,u134,u135,u136,u137,u138,u139,u140,u141,u142,u143,u144,u145,u146,u147,u148,u149,u150,u151,u152,u153,u154,u155,u156,u157,u158,u159,u160,u161,u162,u163,u164,u165,u166,u167,u168,u169,u170,u171,u172,u173,u174,u175,u176,u177,u178,u179,u180,u181,u182,u183,u184,u185,u186,ae,af,ag,ah,ai,aj,ak,al,am,an,ao,aq,ar,au,av,aw],[]⟩ wq)
 (hr:∀(er:Int)(u9 u10 u11 u12 u13 u14 u15 u16 u17 u18 u19 u52 u53 u54 u55 u56 u57 u58 u59 u60 u61 u62 u63 u64 u65 u66 u67 u68 u69 u70 u71 u72 u73 u74 u75 u76 u77 u78 u79 u80 u81 u82 u83 u84 u85 u86 u87 u88 u89 u90 u91 u92 u93 u94 u95 u96 u97 u98 u99 u100 u101 u102 u103 u104 u105 u106 u107 u108 u109 u110 u111 u112 u113 u114 u115 u116 u117 u118 u119 u120 u121 u122 u123 u124 u125 u126 u127 u128 u129 u130 u131 u132 u133 u134 u135 u136 u137 u138 u139 u140 u141 u142 u143 u144 u145 u146 u147 u148 u149 u150 u151 u152 u153 u154 u155 u156 u157 u158 u159 u160 u161 u162 u163 u164 u165 u166 u167 u168 u169 u170 u171 u172 u173 u174 u175 u176 u177 u178 u179 u180 u181 u182 u183 u184 u185 u186:Value)(wq:World),Below w.heap.size w wq->Ax SQ n n M0=.error er->Q .ret ⟨#[c0,c1,c2,c3,.slice none 0 0,.int .i64 er,.int .i64 (n:Int),.slice (some ⟨R,0,none⟩) n n,c8,u9,u10,u11,u12,u13,u14,u15,u16,u17,u18,u19,aE,aF,aG,aH,aI,aJ,aK,aL,aM,aN,aO,aP,aQ,aR,aS,aT,aU,aV,aW,aX,aY,aZ,a0,a1,a2,a3,a6,a7,a8,a9,ba,bb,u52,u53,u54,u55,u56,u57,u58,u59,u60,u61,u62,u63,u64,u65,u66,u67,u68,u69,u70,u71,u72,u73,u74,u75,u76,u77,u78,u79,u80,u81,u82,u83,u84,u85,u86,u87,u88,u89,u90,u91,u92,u93,u94,u95,u96,u97,u98,u99,u100,u101,u102,u103,u104,u105,u106,u107,u108,u109,u110,u111,u112,u113,u114,u115,u116,u117,u118,u119,u120,u121,u122,u123,u124,u125,u126,u127,u128,u129,u130,u131,u132,u133,u134,u135,u136,u137,u138,u139,u140,u141,u142,u143,u144,u145,u146,u147,u148,u149,u150,u151,u152,u153,u154,u155,u156,u157,u158,u159,u160,u161,u162,u163,u164,u165,u166,u167,u168,u169,u170,u171,u172,u173,u174,u175,u176,u177,u178,u179,u180,u181,u182,u183,u184,u185,u186,ae,af,ag,ah,ai,aj,ak,al,am,an,ao,aq,ar,au,av,aw],[]⟩ wq):
 Code.wp prog (Code.loop (Mg 1)) Q ⟨#[c0,c1,c2,c3,a4,a5,.int .i64 (n:Int),.slice (some ⟨R,0,none⟩) n n,c8,.int .i64 0,eX,eY,eZ,e0,e4,e5,e6,a17,a18,a19,aE,aF,aG,aH,aI,aJ,aK,aL,aM,aN,aO,aP,aQ,aR,aS,aT,aU,aV,aW,aX,aY,aZ,a0,a1,a2,a3,a6,a7,a8,a9,ba,bb,e7,e8,e9,fa,fc,fe,ff,fh,fi,fj,fk,fl,fm,fo,fp,fq,ft,fu,fv,fw,fx,fy,fz,fA,fB,fC,a78,a79,fD,fE,fF,fG,fH,fI,fJ,fK,fL,a89,fM,fN,fO,fP,fQ,fR,fS,fT,fU,fV,bq,br,bs,bt,bu,bv,bx,bz,bA,bB,bC,bD,bE,bF,bG,bH,bI,bJ,bK,bL,bM,bN,bO,bP,bQ,bR,bS,bT,bU,bW,bX,bY,bZ,b0,b6,b7,b8,b9,cc,cd,ce,cf,cg,ch,ci,cj,cl,cm,cn,co,cq,cr,ct,cu,cv,cw,cx,cy,cz,cA,cB,cC,cD,cE,cF,cG,cH,cI,cJ,cK,cL,cM,cN,cP,cR,cS,cT,cU,cV,cW,cX,cY,cZ,c9,da,db,dc,ae,af,ag,ah,ai,aj,ak,al,am,an,ao,aq,ar,au,av,aw],[]⟩ w0:=by
 conv=>arg 2;arg 1;whnf
 conv=>arg 4;zeta
 replace aB:=zh aB;replace hx:=zh hx;replace hr:=zh hr
 go_loopw [9] (fun i wq=>∃y:Nat,y<=n/\i=.int .i64 (y:Int)/\Hid (VU w R n M0 y wq)) (fun i _=>n-(intOf i).toNat)
 case atStart=>exact⟨0,zO _,rfl,aB.o⟩
 case round=>
  obtain⟨k,hk,rfl,hI⟩:=hrel
  by_cases hlt:k<n
  .obtain ⟨v,M,hS,hM,hO,bf⟩:=hI.o;clear hI;have k0:(0:Int)<=(k:Int):=by omega
   have k1:(k:Int)<(n:Int):=by omega
   go_wp2;refine Oq R n k v M w _ bk hlt ⟨hM,bf,fun j h1 h2=>absurd h2 (by omega)⟩ ?_;intro p gh gi gj gl gm gn gq gs gu gv gw gx gy gz gA w2 gB gC bn hq;obtain⟨d,bc,hZ⟩:=hq
   by_cases hpn:p<n
   .have aA:=bn hpn;have hp:Dd n k M (n-k)=some p:=FQ (by omega) (by omega) hpn aA fun i a b=>hZ.o i (by omega) b
    have ad:Hid (Cb SQ n k M=if Eg SQ n k (AU k p M)=true then (match AB SQ n k n (Bc k (AU k p M)) with|some M'=>.ok M' | none=>.error 2) else .error 2):=by
     unfold Hid Cb;rw[hp];rfl
    have aD:Hid (AU k p M k k≠0):=by unfold Hid AU;rw[zE rfl];exact aA
    have aC:Hid (∀i j,i<n->j<=n->OkQ (AU k p M i j)):=fun i j hi hj=>by
     unfold AU
     split
     .exact hO.o _ _ hpn hj
     split
     .exact hO.o _ _ hlt hj
     exact hO.o _ _ hi hj
    obtain⟨gk,ck,ek,fW,fX,fY,fZ,_⟩:=d.o.form hlt;obtain⟨gp,cp,ep,f0,f1,f2,f3,_⟩:=d.o.form hpn;have g2:=(d.o.hd p hpn).trans (congrArg some ep);have g3:=(d.o.hd k hlt).trans (congrArg some ek);have g4:=d.o.fr p;have g5:=d.o.fr k;have t1:(p==n)=false:=by rw[zJ];omega
    have t2:((p:Int)==(n:Int))=false:=by rw[zJ];omega
    have dM:¬p=n:=by omega
    have aa:Hid (MatV ((w2.setCell ⟨R,p,none⟩ (.slice (some ⟨gk,0,none⟩) (n+1) ck)).setCell ⟨R,k,none⟩ (.slice (some ⟨gp,0,none⟩) (n+1) cp)).drew w.heap.size R n n (IE k p v) (AU k p M)):=by
     have h:=d.o.swap hlt hpn;rw[ek,ep]at h;exact h.drew
    have ax:Hid (Below w.heap.size w ((w2.setCell ⟨R,p,none⟩ (.slice (some ⟨gk,0,none⟩) (n+1) ck)).setCell ⟨R,k,none⟩ (.slice (some ⟨gp,0,none⟩) (n+1) cp)).drew):=((bc.o.setCell (p:=⟨R,p,none⟩) d.o.lowR _).setCell (p:=⟨R,k,none⟩) d.o.lowR _).drew;clear hp bn aA hZ fW fX fY fZ f0 f1 f2 f3 ek ep hM bf
    go_wp2_with fail
    refine QL R n k p gk ck gp cp w2 g2 g3 g4 g5 hlt hpn ?_;intro gF gG gH gI gJ gK gL gM gN gO gP gQ gR gS;obtain⟨w3,dO⟩:∃W,W=((w2.setCell ⟨R,p,none⟩ (.slice (some ⟨gk,0,none⟩) (n+1) ck)).setCell ⟨R,k,none⟩ (.slice (some ⟨gp,0,none⟩) (n+1) cp)).drew:=⟨_,rfl⟩;rw[<-dO]at aa ax ⊢;clear dO g2 g3 g4 g5 t1 t2 dM d bc;generalize AU k p M=M1 at *;generalize IE k p v=v1 at *;obtain⟨g,c,e,b1,b2,b3,b4,b5⟩:=aa.o.form hlt;obtain⟨e1,e2,e3⟩:=b5 k (by omega);have hd:=(aa.o.hd k hlt).trans (congrArg some e);obtain⟨pg,pn,pd,bo⟩:=BI (M1 k k);rw[bo]at e1 e2 e3;have j4:(k:Int)<(n:Int)+1:=by omega
    have bp:Hid (∀a,a<n->(v1 a).ownBlock≠some w3.heap.size):=fun a ha hb=>by have:=((aa.o.rows a ha).lt _ hb).2;omega
    have dH:=zh (aa.o.alloc (.cells #[.bool pg,.string pn,.string pd] 34));have bd:=zh (ax.o.alloc ax.o.size (.cells #[.bool pg,.string pn,.string pd] 34));have bj:Hid (B3 (w3.alloc (.cells #[.bool pg,.string pn,.string pd] 34)) w3.heap.size (rq (M1 k k)).1 (rq (M1 k k)).2.1 (rq (M1 k k)).2.2):=by rw[bo];exact B3.new w3 _ _ _
    clear bo b1 b2 b3 b4 b5 e;go_wp2;have bg:Hid (MatV (w3.alloc (.cells #[.bool pg,.string pn,.string pd] 34)) w.heap.size R n n v1 (Hs k k M1)):=by rw[Om];exact dH.o
    clear e1 e2 e3 hd dH;refine Tv R n k w3.heap.size v1 M1 w _ bk hlt aD.o aC.o bp.o ⟨bg,bj,bd,fun b h1 h2=>absurd h2 (by omega)⟩ ?_ ?_
    .intro d4 d5 f4 f5 f6 f7 dd de df dg dh di dj dk dl dq dr ds dt du dw dx dy dz dA dB dC dD dE dF dG w5 hq;obtain⟨dI,_,be,dJ⟩:=hq
     have bm:Eg SQ n k M1=true:=(CV SQ).2 fun j a b=>by
      obtain⟨s1,s2⟩:=dJ.o j a (by omega);exact⟨zH s1,zH s2⟩
     have s:Hid (Cb SQ n k M=(match AB SQ n k n (Bc k M1) with|some M'=>.ok M' | none=>.error 2)):=by
      have h:=ad.o;rw[zE bm]at h;exact h
     have bi:Hid (∀i j,i<n->j<=n->OkQ (Bc k M1 i j)):=fun i j hi hj=>by
      unfold Bc
      split
      .rename_i hc;obtain⟨s1,s2⟩:=(CV SQ).1 bm j hc.2 hj;exact Kd (zf s1) (zf s2) aD.o
      exact aC.o i j hi hj
     have bh:Hid (MatV w5 w.heap.size R n n v1 (Bc k M1)):=dI.o.congr fun a b _ hb=>Tt M1 a b hb;clear ad bm dJ dI bg bj bd aa ax bp;generalize Bc k M1=M2 at *;clear aC aD;go_wp2;refine Tw R n k v1 M2 w _ bk hlt ⟨M2,rfl,bh,bi,be⟩ ?_ ?_
     .intro r4 r5 gb gc gd gf dP dQ dR dS dT dU dV dW dX dY dZ d0 d1 d2 d3 d6 d7 d8 d9 ea eb ec ed ee ef eg eh ei ej el em en eo es et eu ew ey ez eA eB eC eD eE eF eG eH eI eJ eK eL eM eN eO eP eQ eR eS eT eU eV eW w6 hq;obtain⟨M3,dK,f9,ga,f8⟩:=hq
      have dN:Hid (Ax SQ n (k+1) M0=.ok M3):=by
       show Ax SQ n (k+1) M0=.ok M3
       unfold Ax;rw[hS.o]
       show Cb SQ n k M=.ok M3
       rw[s.o,dK.o]
      clear bh bi be s dK hS hO;go_wp2
      go_roundw
      case rel=>exact⟨k+1,by omega,by go_num,v1,M3,dN,f9,ga,f8⟩
      case measure=>simp[intOf];omega
     intro gE gb gc gd gf dP dQ dR dS dT dU dV dW dX dY dZ d0 d1 d2 d3 d6 d7 d8 d9 ea eb ec ed ee ef eg eh ei ej el em en eo es et eu ew ey ez eA eB eC eD eE eF eG eH eI eJ eK eL eM eN eO eP eQ eR eS eT eU eV eW w6 ab az;have ay:=zh (Dz hS.o (show Cb SQ n k M=.error 2 by rw[s.o,az]) hlt);replace ab:=zh ab;clear bh bi be s hS hO az;go_wp2;apply hr.o 2
     .exact ab.o
     exact ay.o
    intro gg f4 f5 f6 f7 dd de df dg dh di dj dk dl dq dr ds dt du dw dx dy dz dA dB dC dD dE dF dG w5 ab dL
    have s:Cb SQ n k M=.error 2:=by
     have h:=ad.o;rw[dL,zC (by simp)]at h;exact h
    have ay:=zh (Dz hS.o s hlt);replace ab:=zh ab;clear ad s dL hS hO aC aD bg bj bd aa ax bp;go_wp2;apply hr.o 2
    .exact ab.o
    exact ay.o
   obtain rfl:n=p:=by omega
   have ad:Cb SQ n k M=.error 12:=by
    unfold Cb;rw[Ll (by omega) fun i a b=>hZ.o i (by omega) b]
   have ay:=zh (Dz hS.o ad hlt);have t1:(n==n)=true:=by simp
   have t2:((n:Int)==(n:Int))=true:=by simp
   clear ad bn hZ hS hO d hM bf;go_wp2;apply hr.o 12
   .exact bc.o
   exact ay.o
  obtain rfl:n=k:=by omega
  go_wp2;apply hx.o;exact hI.o
noncomputable def VV:Code:=((Tryz.f57.body.map Bt).bind fun l=>l[9]?).getD .skip
theorem H7{W:World}{b c o x:Nat}{v:Value}(h:b≠c):(W.setCell ⟨c,x,none⟩ v).cell? ⟨b,o,none⟩=W.cell? ⟨b,o,none⟩:=zZ _ _ _ _ (by intro e;injection e with e1;first|exact h e1|exact h e1.symm)
theorem JL(b o j:Nat):((⟨b,o,none⟩:Addr).add j)=⟨b,o+j,none⟩:=by unfold Addr.add;split<;>simp_all
theorem Ty{W W':World}{b:Nat}{l:List Value}(h:∀j u,l[j]? = some u->W.cell? (Addr.add ⟨b,0,none⟩ j)=some u)(hb:b<W.heap.size)(hB:Below W.heap.size W W'):∀j u,l[j]? = some u->W'.cell? (Addr.add ⟨b,0,none⟩ j)=some u:=fun j u hj=>by
 have h1:=h j u hj;rw[JL]at h1 ⊢;exact(hB.cell (p:=⟨b,0+j,none⟩) hb).trans h1
theorem JM{W W':World}{b:Nat}{row:Option Nat}{l:List Value}(h:∀j u,l[j]? = some u->W.cell? (Addr.add ⟨b,0,none⟩ j)=some u)(hb:b<W.heap.size)(hg:W.grownBy W' row)(d:some b≠row):∀j u,l[j]? = some u->W'.cell? (Addr.add ⟨b,0,none⟩ j)=some u:=fun j u hj=>by
 have h1:=h j u hj;rw[JL]at h1 ⊢;rw[zR (a:=⟨b,0+j,none⟩) (hg.block b hb d)];exact h1
theorem Tz{c2 c3 c4 c5 c6 c9 cl cm cn co cq cr ct cu cv cw cx cy cz cA cB cC cD cE cF cG cH cI cJ cK cL cM cN cP cR cS cT cU cV cW cX cY cZ c8 da db dc dd de df dg dh di dj dk dl dq dr ds dt du dw dx dy dz dA dB dC dD dE dF dG dH dI dJ dK dL dM dN dO dP ar au av aw ax ay az aA aB aC aD aE aF aG aH aI aJ aK aL aM aN aO aP aQ aR aS aT aU aV aW aX aY aZ a0 a1 a2 a3 a4 a5 a6 a7 a8 a9 bc bd be bf bg bh bi bj bk bm bn bo bp bq br bs bt bu bv bz bA bB bC bD bE bF bG bH bI bJ bK bL bM bN bO bP bQ bR bS bT bU bW bX bY bZ b0 b1 b2 b3 b4 b5 b6 b7 b8 b9 cc cd ce cf cg dU dV dW dX dY dZ d0 d1 d2 d3 d4 d5 d6 d7 d8:Value}{Q:Exit->Act->World->Prop}(R n i ba oa ca bb ob cb bx ox ci:Nat)(r:Nat->Raw)(xg:Bool)(xn xd:ByteArray)(u0:Value)(w:World)(eb:n<=8)(ea:i<n)
 (d9:ba<w.heap.size)(ch:bb<w.heap.size)(cj:bx<w.heap.size)(hR:R<w.heap.size)(ck:ba≠R)(an:bb≠R)(hx:r n=(xg,xn,xd))
 (ga:w.cell? ⟨ba,oa+i,none⟩=some (.slice (some ⟨bx,ox,none⟩) n ci))
 (dQ:w.cell? ⟨bb,ob+i*3,none⟩=some (.bool xg))(dR:w.cell? ⟨bb,ob+i*3+1,none⟩=some (.string xn))(dS:w.cell? ⟨bb,ob+i*3+2,none⟩=some (.string xd))
 (gx:∀j,j<n->w.cell? ⟨bx,ox+j*3,none⟩=some (.bool (r j).1)/\w.cell? ⟨bx,ox+j*3+1,none⟩=some (.string (r j).2.1)/\w.cell? ⟨bx,ox+j*3+2,none⟩=some (.string (r j).2.2))
 (gR:w.cell? ⟨R,i,none⟩=some u0)(gf:w.frozen? ⟨R,i,none⟩=false)
 (h:∀(u37 u38 u39 u40 u41 u42 u43 u44 u45 u46 u47 u48 u49 u50 u51 v:Value)(w':World),Below w.heap.size w w'->w'.ownsRow w.heap.size 34 3 v (n+1) (AN (n+1) r)->Q .normal ⟨#[.slice (some ⟨ba,oa,none⟩) n ca,.slice (some ⟨bb,ob,none⟩) n cb,c2,c3,c4,c5,c6,.slice (some ⟨R,0,none⟩) n n,.int .i64 (i:Int),c9,cl,cm,cn,co,cq,cr,ct,cu,cv,cw,cx,cy,cz,cA,cB,cC,cD,cE,cF,cG,cH,cI,cJ,cK,cL,cM,cN,u37,u38,u39,u40,u41,u42,u43,u44,u45,u46,u47,u48,u49,u50,u51,cP,cR,cS,cT,cU,cV,cW,cX,cY,cZ,c8,da,db,dc,dd,de,df,dg,dh,di,dj,dk,dl,dq,dr,ds,dt,du,dw,dx,dy,dz,dA,dB,dC,dD,dE,dF,dG,dH,dI,dJ,dK,dL,dM,dN,dO,dP,ar,au,av,aw,ax,ay,az,aA,aB,aC,aD,aE,aF,aG,aH,aI,aJ,aK,aL,aM,aN,aO,aP,aQ,aR,aS,aT,aU,aV,aW,aX,aY,aZ,a0,a1,a2,a3,a4,a5,a6,a7,a8,a9,bc,bd,be,bf,bg,bh,bi,bj,bk,bm,bn,bo,bp,bq,br,bs,bt,bu,bv,bz,bA,bB,bC,bD,bE,bF,bG,bH,bI,bJ,bK,bL,bM,bN,bO,bP,bQ,bR,bS,bT,bU,bW,bX,bY,bZ,b0,b1,b2,b3,b4,b5,b6,b7,b8,b9,cc,cd,ce,cf,cg],[]⟩ (w'.setCell ⟨R,i,none⟩ v)):
 Code.wp prog VV Q ⟨#[.slice (some ⟨ba,oa,none⟩) n ca,.slice (some ⟨bb,ob,none⟩) n cb,c2,c3,c4,c5,c6,.slice (some ⟨R,0,none⟩) n n,.int .i64 (i:Int),c9,cl,cm,cn,co,cq,cr,ct,cu,cv,cw,cx,cy,cz,cA,cB,cC,cD,cE,cF,cG,cH,cI,cJ,cK,cL,cM,cN,dU,dV,dW,dX,dY,dZ,d0,d1,d2,d3,d4,d5,d6,d7,d8,cP,cR,cS,cT,cU,cV,cW,cX,cY,cZ,c8,da,db,dc,dd,de,df,dg,dh,di,dj,dk,dl,dq,dr,ds,dt,du,dw,dx,dy,dz,dA,dB,dC,dD,dE,dF,dG,dH,dI,dJ,dK,dL,dM,dN,dO,dP,ar,au,av,aw,ax,ay,az,aA,aB,aC,aD,aE,aF,aG,aH,aI,aJ,aK,aL,aM,aN,aO,aP,aQ,aR,aS,aT,aU,aV,aW,aX,aY,aZ,a0,a1,a2,a3,a4,a5,a6,a7,a8,a9,bc,bd,be,bf,bg,bh,bi,bj,bk,bm,bn,bo,bp,bq,br,bs,bt,bu,bv,bz,bA,bB,bC,bD,bE,bF,bG,bH,bI,bJ,bK,bL,bM,bN,bO,bP,bQ,bR,bS,bT,bU,bW,bX,bY,bZ,b0,b1,b2,b3,b4,b5,b6,b7,b8,b9,cc,cd,ce,cf,cg],[]⟩ w:=by
 have j0:(0:Int)<=(i:Int):=by omega
 have j1:(i:Int)<(n:Int):=by omega
 have HO:Hid (∀W,Below w.heap.size w W->W.cell? ⟨ba,oa+i,none⟩=some (.slice (some ⟨bx,ox,none⟩) n ci)/\W.cell? ⟨bb,ob+i*3,none⟩=some (.bool xg)/\W.cell? ⟨bb,ob+i*3+1,none⟩=some (.string xn)/\W.cell? ⟨bb,ob+i*3+2,none⟩=some (.string xd)):=fun W hb=>⟨(hb.cell (p:=⟨ba,_,none⟩) d9).trans ga,(hb.cell (p:=⟨bb,_,none⟩) ch).trans dQ,(hb.cell (p:=⟨bb,_,none⟩) ch).trans dR,(hb.cell (p:=⟨bb,_,none⟩) ch).trans dS⟩
 have HX:Hid (∀W,Below w.heap.size w W->∀j,j<n->W.cell? ⟨bx,ox+j*3,none⟩=some (.bool (r j).1)/\W.cell? ⟨bx,ox+j*3+1,none⟩=some (.string (r j).2.1)/\W.cell? ⟨bx,ox+j*3+2,none⟩=some (.string (r j).2.2)):=fun W hb j hj=>
  ⟨(hb.cell (p:=⟨bx,_,none⟩) cj).trans (gx j hj).1,(hb.cell (p:=⟨bx,_,none⟩) cj).trans (gx j hj).2.1,(hb.cell (p:=⟨bx,_,none⟩) cj).trans (gx j hj).2.2⟩
 obtain⟨i0,ah,dT⟩:=Option.map_eq_some_iff.1 infoQ;simp only[Prod.mk.injEq]at dT;obtain⟨aj,ak,al⟩:=dT;replace ck:=zh ck;replace an:=zh an;replace ah:=zh ah;replace aj:=zh aj;replace ak:=zh ak;replace al:=zh al;clear ga dQ dR dS gx
 conv=>arg 2;whnf
 conv=>arg 4;zeta
 replace h:=zh h
 have HO2:Hid (∀W v,Below w.heap.size w W->(W.setCell ⟨R,i,none⟩ v).cell? ⟨ba,oa+i,none⟩=some (.slice (some ⟨bx,ox,none⟩) n ci)/\(W.setCell ⟨R,i,none⟩ v).cell? ⟨bb,ob+i*3,none⟩=some (.bool xg)/\(W.setCell ⟨R,i,none⟩ v).cell? ⟨bb,ob+i*3+1,none⟩=some (.string xn)/\(W.setCell ⟨R,i,none⟩ v).cell? ⟨bb,ob+i*3+2,none⟩=some (.string xd)):=fun W v hb=>by
  obtain⟨q1,q2,q3,q4⟩:=HO.o W hb;exact⟨(H7 ck.o).trans q1,(H7 an.o).trans q2,(H7 an.o).trans q3,(H7 an.o).trans q4⟩
 refine yS ?_;refine yU (S:=fun W=>W.cell? ⟨ba,oa+i,none⟩=some (.slice (some ⟨bx,ox,none⟩) n ci)/\W.cell? ⟨bb,ob+i*3,none⟩=some (.bool xg)/\W.cell? ⟨bb,ob+i*3+1,none⟩=some (.string xn)/\W.cell? ⟨bb,ob+i*3+2,none⟩=some (.string xd)) (by kernel_rfl) (HO.o _ (zI _ w).drew) (fun ad=>?_);replace ad:=zh ad;refine tkfH (v:=?_) 0 rfl (ad.o) (Or.inl ⟨by rfl,?_⟩) ?_;rotate_left
 . (intro w a;obtain⟨q1,q2,q3,q4⟩:=a;go_simp<;>with_reducible rfl)
 try simp only[Act.put,zA]
 refine tkfH (v:=?_) 1 rfl (ad.o) (Or.inl ⟨by rfl,?_⟩) ?_;rotate_left
 . (intro w a;obtain⟨q1,q2,q3,q4⟩:=a;go_simp<;>with_reducible rfl)
 try simp only[Act.put]
 refine tkfH (v:=?_) 3 rfl (ad.o) (Or.inl ⟨by rfl,?_⟩) ?_;rotate_left
 . (intro w a;obtain⟨q1,q2,q3,q4⟩:=a;go_simp<;>with_reducible rfl)
 try simp only[Act.put]
 refine tkfH (v:=?_) 4 rfl (ad.o) (Or.inl ⟨by rfl,?_⟩) ?_;rotate_left
 . (intro w a;obtain⟨q1,q2,q3,q4⟩:=a;go_simp<;>with_reducible rfl)
 try simp only[Act.put]
 refine tkfH (v:=?_) 5 rfl (ad.o) (Or.inl ⟨by rfl,?_⟩) ?_;rotate_left
 . (intro w a;obtain⟨q1,q2,q3,q4⟩:=a;go_simp<;>with_reducible rfl)
 try simp only[Act.put]
 refine tkfH (v:=?_) 6 rfl (ad.o) (Or.inl ⟨by rfl,?_⟩) ?_;rotate_left
 . (intro w a;obtain⟨q1,q2,q3,q4⟩:=a;go_simp<;>with_reducible rfl)
 try simp only[Act.put]
 refine tkfH (v:=?_) 8 rfl (ad.o) (Or.inl ⟨by rfl,?_⟩) ?_;rotate_left
 . (intro w a;obtain⟨q1,q2,q3,q4⟩:=a;go_simp<;>with_reducible rfl)
 try simp only[Act.put]
 refine tkfH (v:=?_) 9 rfl (ad.o) (Or.inl ⟨by rfl,?_⟩) ?_;rotate_left
 . (intro w a;obtain⟨q1,q2,q3,q4⟩:=a;go_simp<;>with_reducible rfl)
 try simp only[Act.put]
 refine tkfH (v:=?_) 10 rfl (ad.o) (Or.inl ⟨by rfl,?_⟩) ?_;rotate_left
 . (intro w a;obtain⟨q1,q2,q3,q4⟩:=a;go_simp<;>with_reducible rfl)
 try simp only[Act.put]
 refine tkfH (v:=?_) 11 rfl (ad.o) (Or.inl ⟨by rfl,?_⟩) ?_;rotate_left
 . (intro w a;obtain⟨q1,q2,q3,q4⟩:=a;go_simp<;>with_reducible rfl)
 try simp only[Act.put]
 refine zP (rs:=[2,12]) (by kernel_rfl) (by simp) ?_;refine zK (o:=_) rfl (fun K hK=>?_) ?_
 .go_simp;have am:Hid (Below w.heap.size w ((w.alloc (.cells #[] 34)).drew)):=((zI _ w).alloc (zB _) _).drew;have ho:Hid (World.ownsRow ((w.alloc (.cells #[] 34)).drew) w.heap.size 34 3 (.slice (some ⟨w.heap.size,0,none⟩) 0 0) 0 []):=World.ownsRow_made w #[] 0 (zB _) (by unfold maxLen;omega) rfl;refine hK.o _ _ (HO.o _ am.o) (fun _=>?_);clear hK K
  try simp only[Act.put,zA,zG,zF]
  refine zP (rs:=[7,12]) (by kernel_rfl) (by simp) ?_;refine zK (o:=_) rfl (fun K hK=>?_) ?_
  .rw [zE (by rfl)];refine AE _ _ _ 27 rfl w.heap.size 34 i0 (.agg #[.bool false,.string ⟨#[]⟩,.string ⟨#[]⟩]) 3 40 underlying27 ah.o aj.o ak.o al.o rfl (by decide) (.slice (some ⟨w.heap.size,0,none⟩) 0 0) 0 [] rfl ho.o ⟨bx,ox,none⟩ n ci (AN n r) rfl (AH _ _) (E8 (HX.o _ am.o)) (Gi _ _) (by omega) (by unfold maxLen;omega) (by omega) am.o.size ?_;intro va wa ae af ao;have s:Hid (Below w.heap.size w wa):=am.o.grown af am.o.size (fun b e=>(ho.o.lt b e).1);rw[zm,yW]at ae;clear af ao ho;have ho:=zh ae;clear ae;refine hK.o _ _ (HO.o _ s.o) (fun _=>?_);clear hK K
   try simp only[Act.put,zA]
   refine zP (rs:=[12]) (by kernel_rfl) (by simp) ?_;refine zK (o:=_) rfl (fun K hK=>?_) ?_
   .go_simp;have aa:Hid (Below w.heap.size w (wa.alloc (.cells #[.bool xg,.string xn,.string xd] 34))):=s.o.alloc s.o.size _
    have hN:Hid (∀j u,(CI (xg,xn,xd))[j]? = some u->World.cell? (wa.alloc (.cells #[.bool xg,.string xn,.string xd] 34)) (Addr.add ⟨wa.heap.size,0,none⟩ j)=some u):=by
     have h:=Ft (wa) xg xn xd 34;exact h
    replace ho:=zh (ho.o.alloc (.cells #[.bool xg,.string xn,.string xd] 34));refine hK.o _ _ (HO.o _ aa.o) (fun _=>?_);clear hK K
    try simp only[Act.put,zA,zG,zF]
    refine zP (rs:=[13]) (by kernel_rfl) (by simp) ?_;refine zK (o:=_) rfl (fun K hK=>?_) ?_
    .rw [zE (by rfl)];refine AE _ _ _ 27 rfl w.heap.size 34 i0 (.agg #[.bool false,.string ⟨#[]⟩,.string ⟨#[]⟩]) 3 40 underlying27 ah.o aj.o ak.o al.o rfl (by decide) va n (AN n r) rfl ho.o ⟨wa.heap.size,0,none⟩ 1 1 (CI (xg,xn,xd)) rfl rfl hN.o (DC _) (by omega) (by unfold maxLen;omega) (by omega) aa.o.size ?_;intro vb wb ab ag aq;have d:Hid (Below w.heap.size w wb):=aa.o.grown ag aa.o.size (fun b e=>(ho.o.lt b e).1);have ai:Hid (wb.ownsRow w.heap.size 34 3 vb (n+1) (AN (n+1) r)):=by rw[Br,hx];exact ab
     clear ag aq ab ho hN;have s1:=(d.o.cell (p:=⟨R,i,none⟩) hR).trans gR;have s2:=(d.o.frozen (p:=⟨R,i,none⟩) hR).trans gf;obtain⟨A9,c9,rfl,_⟩:=BV ai.o;refine hK.o _ _ (HO.o _ d.o) (fun _=>?_);clear hK K
     try simp only[Act.put,zA]
     refine tkfH (v:=?_) 14 rfl (HO.o _ d.o) (Or.inl ⟨by rfl,?_⟩) ?_;rotate_left
     . (intro w a;obtain⟨q1,q2,q3,q4⟩:=a;go_simp<;>with_reducible rfl)
     try simp only[Act.put]
     refine zP (rs:=[15]) (by kernel_rfl) (by simp) ?_;refine zK (o:=_) rfl (fun K hK=>?_) ?_
     .go_simp;refine hK.o _ _ (HO2.o _ _ d.o) (fun _=>?_);clear hK K
      try simp only[Act.put,zA,zG,zF]
      refine ym (by kernel_rfl) ?_ _;refine yF ?_;apply h.o
      .exact d.o
      exact ai.o
     exact zN
    exact zN
   exact zN
  refine zK (o:=_) rfl (fun K hK=>?_) ?_
  .go_simp;have s:Hid (Below w.heap.size w (((w.alloc (.cells #[] 34)).alloc (.cells #[.bool xg,.string xn,.string xd] 34)).drew)):=(((zI _ w).alloc (zB _) _).alloc (by simp) _).drew
   have hN:Hid (∀j u,(CI (xg,xn,xd))[j]? = some u->World.cell? (((w.alloc (.cells #[] 34)).alloc (.cells #[.bool xg,.string xn,.string xd] 34)).drew) (Addr.add ⟨w.heap.size+1,0,none⟩ j)=some u):=by
    have h:=Ft ((w.alloc (.cells #[] 34))) xg xn xd 34;rw[zT]at h;exact h
   replace ho:=zh (ho.o.alloc (.cells #[.bool xg,.string xn,.string xd] 34));refine hK.o _ _ (HO.o _ s.o) (fun _=>?_);clear hK K
   try simp only[Act.put,zA,zG,zF]
   refine zP (rs:=[7]) (by kernel_rfl) (by simp) ?_;refine zK (o:=_) rfl (fun K hK=>?_) ?_
   .rw [zE (by rfl)];refine AE _ _ _ 27 rfl w.heap.size 34 i0 (.agg #[.bool false,.string ⟨#[]⟩,.string ⟨#[]⟩]) 3 40 underlying27 ah.o aj.o ak.o al.o rfl (by decide) (.slice (some ⟨w.heap.size,0,none⟩) 0 0) 0 [] rfl ho.o ⟨bx,ox,none⟩ n ci (AN n r) rfl (AH _ _) (E8 (HX.o _ s.o)) (Gi _ _) (by omega) (by unfold maxLen;omega) (by omega) s.o.size ?_;intro va wa ae af ao;have aa:Hid (Below w.heap.size w wa):=s.o.grown af s.o.size (fun b e=>(ho.o.lt b e).1);rw[zm,yW]at ae;replace hN:Hid (∀j u,(CI (xg,xn,xd))[j]? = some u->wa.cell? (Addr.add ⟨w.heap.size+1,0,none⟩ j)=some u):=JM hN.o (by simp<;>omega) af (by simp[Value.ownBlock]);clear af ao ho;have ho:=zh ae;clear ae;refine hK.o _ _ (HO.o _ aa.o) (fun _=>?_);clear hK K
    try simp only[Act.put,zA]
    refine zP (rs:=[13]) (by kernel_rfl) (by simp) ?_;refine zK (o:=_) rfl (fun K hK=>?_) ?_
    .rw [zE (by rfl)];refine AE _ _ _ 27 rfl w.heap.size 34 i0 (.agg #[.bool false,.string ⟨#[]⟩,.string ⟨#[]⟩]) 3 40 underlying27 ah.o aj.o ak.o al.o rfl (by decide) va n (AN n r) rfl ho.o ⟨w.heap.size+1,0,none⟩ 1 1 (CI (xg,xn,xd)) rfl rfl hN.o (DC _) (by omega) (by unfold maxLen;omega) (by omega) aa.o.size ?_;intro vb wb ab ag aq;have d:Hid (Below w.heap.size w wb):=aa.o.grown ag aa.o.size (fun b e=>(ho.o.lt b e).1);have ai:Hid (wb.ownsRow w.heap.size 34 3 vb (n+1) (AN (n+1) r)):=by rw[Br,hx];exact ab
     clear ag aq ab ho hN;have s1:=(d.o.cell (p:=⟨R,i,none⟩) hR).trans gR;have s2:=(d.o.frozen (p:=⟨R,i,none⟩) hR).trans gf;obtain⟨A9,c9,rfl,_⟩:=BV ai.o;refine hK.o _ _ (HO.o _ d.o) (fun _=>?_);clear hK K
     try simp only[Act.put]
     refine tkfH (v:=?_) 14 rfl (HO.o _ d.o) (Or.inl ⟨by rfl,?_⟩) ?_;rotate_left
     . (intro w a;obtain⟨q1,q2,q3,q4⟩:=a;go_simp<;>with_reducible rfl)
     try simp only[Act.put]
     refine zP (rs:=[15]) (by kernel_rfl) (by simp) ?_;refine zK (o:=_) rfl (fun K hK=>?_) ?_
     .go_simp;refine hK.o _ _ (HO2.o _ _ d.o) (fun _=>?_);clear hK K
      try simp only[Act.put,zA,zG,zF]
      refine ym (by kernel_rfl) ?_ _;refine yF ?_;apply h.o
      .exact d.o
      exact ai.o
     exact zN
    exact zN
   exact zN
  exact zN
 refine zK (o:=_) rfl (fun K hK=>?_) ?_
 .go_simp;have am:Hid (Below w.heap.size w ((w.alloc (.cells #[.bool xg,.string xn,.string xd] 34)).drew)):=((zI _ w).alloc (zB _) _).drew
  have hN:Hid (∀j u,(CI (xg,xn,xd))[j]? = some u->World.cell? ((w.alloc (.cells #[.bool xg,.string xn,.string xd] 34)).drew) (Addr.add ⟨w.heap.size,0,none⟩ j)=some u):=by
   have h:=Ft (w) xg xn xd 34;exact h
  refine hK.o _ _ (HO.o _ am.o) (fun _=>?_);clear hK K
  try simp only[Act.put,zA,zG,zF]
  refine zP (rs:=[2]) (by kernel_rfl) (by simp) ?_;refine zK (o:=_) rfl (fun K hK=>?_) ?_
  .go_simp;have s:Hid (Below w.heap.size w (((w.alloc (.cells #[.bool xg,.string xn,.string xd] 34)).alloc (.cells #[] 34)).drew)):=(((zI _ w).alloc (zB _) _).alloc (by simp) _).drew
   have ho:Hid (World.ownsRow (((w.alloc (.cells #[.bool xg,.string xn,.string xd] 34)).alloc (.cells #[] 34)).drew) w.heap.size 34 3 (.slice (some ⟨w.heap.size+1,0,none⟩) 0 0) 0 []):=by
    have h:=World.ownsRow_made (e:=34) (w.alloc (.cells #[.bool xg,.string xn,.string xd] 34)) #[] 0 (base:=w.heap.size) (size:=3) (by simp) (by unfold maxLen;omega) rfl;rw[zT]at h;exact h.drew
   replace hN:Hid (∀j u,(CI (xg,xn,xd))[j]? = some u->World.cell? (((w.alloc (.cells #[.bool xg,.string xn,.string xd] 34)).alloc (.cells #[] 34)).drew) (Addr.add ⟨w.heap.size,0,none⟩ j)=some u):=Ty (W:=w.alloc (.cells #[.bool xg,.string xn,.string xd] 34)) hN.o (by simp) ((zI _ _).alloc (zB _) _).drew;refine hK.o _ _ (HO.o _ s.o) (fun _=>?_);clear hK K
   try simp only[Act.put,zA,zG,zF]
   refine zP (rs:=[7]) (by kernel_rfl) (by simp) ?_;refine zK (o:=_) rfl (fun K hK=>?_) ?_
   .rw [zE (by rfl)];refine AE _ _ _ 27 rfl w.heap.size 34 i0 (.agg #[.bool false,.string ⟨#[]⟩,.string ⟨#[]⟩]) 3 40 underlying27 ah.o aj.o ak.o al.o rfl (by decide) (.slice (some ⟨w.heap.size+1,0,none⟩) 0 0) 0 [] rfl ho.o ⟨bx,ox,none⟩ n ci (AN n r) rfl (AH _ _) (E8 (HX.o _ s.o)) (Gi _ _) (by omega) (by unfold maxLen;omega) (by omega) s.o.size ?_;intro va wa ae af ao;have aa:Hid (Below w.heap.size w wa):=s.o.grown af s.o.size (fun b e=>(ho.o.lt b e).1);rw[zm,yW]at ae;replace hN:Hid (∀j u,(CI (xg,xn,xd))[j]? = some u->wa.cell? (Addr.add ⟨w.heap.size,0,none⟩ j)=some u):=JM hN.o (by simp<;>omega) af (by simp[Value.ownBlock]);clear af ao ho;have ho:=zh ae;clear ae;refine hK.o _ _ (HO.o _ aa.o) (fun _=>?_);clear hK K
    try simp only[Act.put,zA]
    refine zP (rs:=[13]) (by kernel_rfl) (by simp) ?_;refine zK (o:=_) rfl (fun K hK=>?_) ?_
    .rw [zE (by rfl)];refine AE _ _ _ 27 rfl w.heap.size 34 i0 (.agg #[.bool false,.string ⟨#[]⟩,.string ⟨#[]⟩]) 3 40 underlying27 ah.o aj.o ak.o al.o rfl (by decide) va n (AN n r) rfl ho.o ⟨w.heap.size,0,none⟩ 1 1 (CI (xg,xn,xd)) rfl rfl hN.o (DC _) (by omega) (by unfold maxLen;omega) (by omega) aa.o.size ?_;intro vb wb ab ag aq;have d:Hid (Below w.heap.size w wb):=aa.o.grown ag aa.o.size (fun b e=>(ho.o.lt b e).1);have ai:Hid (wb.ownsRow w.heap.size 34 3 vb (n+1) (AN (n+1) r)):=by rw[Br,hx];exact ab
     clear ag aq ab ho hN;have s1:=(d.o.cell (p:=⟨R,i,none⟩) hR).trans gR;have s2:=(d.o.frozen (p:=⟨R,i,none⟩) hR).trans gf;obtain⟨A9,c9,rfl,_⟩:=BV ai.o;refine hK.o _ _ (HO.o _ d.o) (fun _=>?_);clear hK K
     try simp only[Act.put]
     refine tkfH (v:=?_) 14 rfl (HO.o _ d.o) (Or.inl ⟨by rfl,?_⟩) ?_;rotate_left
     . (intro w a;obtain⟨q1,q2,q3,q4⟩:=a;go_simp<;>with_reducible rfl)
     try simp only[Act.put]
     refine zP (rs:=[15]) (by kernel_rfl) (by simp) ?_;refine zK (o:=_) rfl (fun K hK=>?_) ?_
     .go_simp;refine hK.o _ _ (HO2.o _ _ d.o) (fun _=>?_);clear hK K
      try simp only[Act.put,zA,zG,zF]
      refine ym (by kernel_rfl) ?_ _;refine yF ?_;apply h.o
      .exact d.o
      exact ai.o
     exact zN
    exact zN
   exact zN
  exact zN
 exact zN
theorem Ot(Aa Ab:Option Addr)(n ca cb:Nat)(la:List RowH)(lb:List Raw)(M0:Mx)(w:World)(ha:la.length=n)(ae:lb.length=n)(hs:SysIn w Aa Ab la lb)(hv:Ew (AJ la) lb=true)(aM:n<=8)
 (an:∀i (h:i<la.length),la[i].2.2.length=n/\∀j (h2:j<la[i].2.2.length),la[i].2.2[j]=rq (M0 i j))(ao:∀i (h:i<lb.length),lb[i]=rq (M0 i n))(aq:∀i j,i<n->j<=n->OkQ (M0 i j)):
 Calls prog 57 #[.slice Aa n ca,.slice Ab n cb] w (Fs n M0 w):=by
 have kv:=K8 Aa Ab ca cb la lb w hs;have aX:=xG (P:=prog) 77 27 (.slice none 0 0) 24 underlying77 Kf rfl .i64 .i64 n (by omega) (by omega);rw[hv,ae,ha]at kv;replace kv:=zh kv;replace hs:=zh hs;replace an:=zh an;replace aq:=zh aq;replace ao:=zh ao;replace ha:=zh ha;replace ae:=zh ae;clear hv;go_enter func57,ntmps57
 go_wp2_with fail
 refine kv.o.q fun w2 hb=>?_;have am:=zh hb;clear hb;have hP:Hid (MatV (w2.alloc (.cells (madeCells #[(.slice none 0 0:Value)] n) 27)) w.heap.size w2.heap.size n 0 (fun _=>.slice none 0 0) M0):=MatV.start w2 am.o.size n _ M0;have aD:Hid (Below w.heap.size w (w2.alloc (.cells (madeCells #[(.slice none 0 0:Value)] n) 27))):=am.o.alloc am.o.size _;go_wp2;obtain⟨R,hR⟩:∃R,R=w2.heap.size:=⟨_,rfl⟩;rw[<-hR]at hP ⊢;clear aX;replace hR:=zh hR
 go_loopw [8] (fun i wr=>∃(y:Nat)(v:Nat->Value),y<=n/\i=.int .i64 (y:Int)/\Hid (MatV wr w.heap.size R n y v M0)/\Hid (Below w.heap.size w wr)) (fun i _=>n-(intOf i).toNat)
 case atStart=>exact⟨0,_,zO _,rfl,hP,aD⟩
 case round=>
  obtain⟨i,v,hi,rfl,hQ,a⟩:=hrel
  by_cases hlt:i<n
  .obtain ⟨ba,oa,rfl,aF,aG⟩:=hs.o.ma (by rw[ha.o];omega);obtain⟨bb,ob,rfl,ah,aH⟩:=hs.o.mb (by rw[ae.o];omega);obtain⟨a1,al⟩:=aG i (by rw[ha.o];exact hlt);obtain⟨b1,b2,b3⟩:=aH i (by rw[ae.o];exact hlt);clear aG aH;obtain⟨hl,aL⟩:=an.o i (by rw[ha.o];exact hlt);obtain⟨bx,ox,aE,ai,aI⟩:=al (by rw[hl];omega);rw[hl,aE]at a1;have aY:=a.o.size
   have ab:∀j,j<n->wr.cell? ⟨bx,ox+j*3,none⟩=some (.bool (rq (M0 i j)).1)/\wr.cell? ⟨bx,ox+j*3+1,none⟩=some (.string (rq (M0 i j)).2.1)/\wr.cell? ⟨bx,ox+j*3+2,none⟩=some (.string (rq (M0 i j)).2.2):=fun j hj=>by
    have h1:=aI j (by rw[hl];exact hj);rw[aL j (by rw[hl];exact hj)]at h1;exact⟨(a.o.cell (p:=⟨bx,_,none⟩) ai).trans h1.1,(a.o.cell (p:=⟨bx,_,none⟩) ai).trans h1.2.1,(a.o.cell (p:=⟨bx,_,none⟩) ai).trans h1.2.2⟩
   rw[ao.o i (by rw[ae.o];exact hlt)]at b1 b2 b3;clear hl aL aE aI al;generalize (la[i]'(by rw[ha.o];exact hlt)).2.1=ci at *;obtain⟨xg,xn,xd,ak⟩:=BI (M0 i n);rw[ak]at b1 b2 b3;replace a1:=(a.o.cell (p:=⟨ba,oa+i,none⟩) aF).trans a1;replace b1:=(a.o.cell (p:=⟨bb,ob+i*3,none⟩) ah).trans b1;replace b2:=(a.o.cell (p:=⟨bb,ob+i*3+1,none⟩) ah).trans b2;replace b3:=(a.o.cell (p:=⟨bb,ob+i*3+2,none⟩) ah).trans b3;obtain⟨u0,aP⟩:=hQ.o.ex i hlt;have aJ:=hQ.o.fr i;have ad:=hQ.o.lt;have aW:=hQ.o.lowR;have d:=zh (show ba<wr.heap.size/\bb<wr.heap.size/\bx<wr.heap.size/\R<wr.heap.size/\ba≠R/\bb≠R from⟨by omega,by omega,by omega,ad,by omega,by omega⟩);have aa:=zh (show wr.cell? ⟨ba,oa+i,none⟩=some (.slice (some ⟨bx,ox,none⟩) n ci)/\wr.cell? ⟨bb,ob+i*3,none⟩=some (.bool xg)/\wr.cell? ⟨bb,ob+i*3+1,none⟩=some (.string xn)/\wr.cell? ⟨bb,ob+i*3+2,none⟩=some (.string xd)/\wr.cell? ⟨R,i,none⟩=some u0/\wr.frozen? ⟨R,i,none⟩=false from⟨a1,b1,b2,b3,aP,aJ⟩);replace ab:=zh ab;replace ak:=zh ak;clear a1 b1 b2 b3 aP aJ ad aW aY aF ah ai
   go_wp2_with fail
   refine Tz R n i ba oa ca bb ob cb bx ox ci (fun j=>rq (M0 i j)) xg xn xd u0 wr aM hlt d.o.1 d.o.2.1 d.o.2.2.1 d.o.2.2.2.1 d.o.2.2.2.2.1 d.o.2.2.2.2.2 ak.o aa.o.1 aa.o.2.1 aa.o.2.2.1 aa.o.2.2.2.1 ab.o aa.o.2.2.2.2.1 aa.o.2.2.2.2.2 ?_;intro aZ a0 a2 a3 a4 a5 a6 a7 a8 a9 bc bd be bf bg vn w5 ar aN;have aV:=zh (hQ.o.step hlt ar a.o.size aN);have aU:Hid (Below w.heap.size w (w5.setCell ⟨R,i,none⟩ vn)):=(a.o.trans (ar.mono a.o.size)).setCell (p:=⟨R,i,none⟩) hQ.o.lowR _;clear ar aN hQ a ab aa;go_wp2
   go_roundw
   case rel=>exact⟨i+1,_,by omega,by go_num,aV,aU⟩
   case measure=>simp[intOf];omega
  obtain rfl:n=i:=by omega
  clear hP aD hlt;go_wp2;refine Tx R n M0 w _ aM ⟨v,M0,rfl,hQ,aq,a⟩ ?_ ?_
  .intro u4 u5 u10 u11 u12 u13 u14 u15 u16 u17 u18 u19 u52 u53 u54 u55 u56 u57 u58 u59 u60 u61 u62 u63 u64 u65 u66 u67 u68 u69 u70 u71 u72 u73 u74 u75 u76 u77 u78 u79 u80 u81 u82 u83 u84 u85 u86 u87 u88 u89 u90 u91 u92 u93 u94 u95 u96 u97 u98 u99 u100 u101 u102 u103 u104 u105 u106 u107 u108 u109 u110 u111 u112 u113 u114 u115 u116 u117 u118 u119 u120 u121 u122 u123 u124 u125 u126 u127 u128 u129 u130 u131 u132 u133 u134 u135 u136 u137 u138 u139 u140 u141 u142 u143 u144 u145 u146 u147 u148 u149 u150 u151 u152 u153 u154 u155 u156 u157 u158 u159 u160 u161 u162 u163 u164 u165 u166 u167 u168 u169 u170 u171 u172 u173 u174 u175 u176 u177 u178 u179 u180 u181 u182 u183 u184 u185 u186 wq hq;clear hQ a;obtain⟨v2,M,hS,hM,hO,a⟩:=hq;have ax:=a.o.size;have ad:=hM.o.lt;obtain⟨i0,aw,aQ⟩:=Option.map_eq_some_iff.1 infoQ;simp only[Prod.mk.injEq]at aQ;obtain⟨az,aA,aB⟩:=aQ;go_wp2;replace aw:=zh aw;replace az:=zh az;replace aA:=zh aA;replace aB:=zh aB
   go_loopw [20,21] (fun v i wz=>∃y:Nat,y<=n/\i=.int .i64 (y:Int)/\Hid (wz.ownsRow wq.heap.size 34 3 v y (AN y fun i=>rq (M i n)))/\Hid (Below wq.heap.size wq wz)) (fun _ i _=>n-(intOf i).toNat)
   case atStart=>exact⟨0,zO _,rfl,zq _ _ _ _,zI _ _⟩
   case round=>
    obtain⟨y,hy,rfl,af,s⟩:=hrel
    by_cases hlt9:y<n
    .obtain⟨gy,cy,ey,aR,ag,aS,aT,aC⟩:=hM.o.form hlt9;have g1:=(s.o.cell (p:=⟨R,y,none⟩) ad).trans ((hM.o.hd y hlt9).trans (congrArg some ey));obtain⟨e1,e2,e3⟩:=aC n (zB _);replace e1:=(s.o.cell (p:=⟨gy,n*3,none⟩) ag).trans e1;replace e2:=(s.o.cell (p:=⟨gy,n*3+1,none⟩) ag).trans e2;replace e3:=(s.o.cell (p:=⟨gy,n*3+2,none⟩) ag).trans e3;have g3:(n:Int)<(n:Int)+1:=by omega
     have g4:(0:Int)<=(n:Int):=by omega
     have g5:(0:Int)<=(y:Int):=by omega
     have g6:(y:Int)<(n:Int):=by omega
     have aO:=s.o.size;clear ax ad aR ag aS aT aC ey;obtain⟨rv,aj⟩:∃x,x=rq (M y n):=⟨_,rfl⟩;rw[<-aj]at e1 e2 e3;obtain⟨ra,rb,rc⟩:=rv;replace aj:=zh aj;replace e1:wr.cell? ⟨gy,n*3,none⟩=some (.bool ra):=e1;replace e2:wr.cell? ⟨gy,n*3+1,none⟩=some (.string rb):=e2;replace e3:wr.cell? ⟨gy,n*3+2,none⟩=some (.string rc):=e3
     go_wp2_with (at_builtin;refine xT _ rfl _ _ 27 rfl wq.heap.size 34 i0 (.agg #[.bool false,.string ⟨#[]⟩,.string ⟨#[]⟩]) 3 40 underlying27 aw.o az.o aA.o aB.o rfl (by decide) u20 y (AN y fun i=>rq (M i n)) rfl (af.o.alloc _) ⟨wr.heap.size,0,none⟩ 1 1 (CI (ra,rb,rc)) rfl rfl (Ft _ _ _ _ _) (DC _) (by unfold maxLen;omega) (by omega) (by simp;omega) ?_;intro v2 w2 ay aK _)
     refine⟨⟨y+1,by omega,by go_num,?_,(s.o.alloc aO _).grown aK (by simp;omega) (fun b e=>(af.o.lt b e).1)⟩,by simp only[intOf];omega⟩;rw[Br,<-aj.o];exact ay
    obtain rfl:n=y:=by omega
    clear ad;go_wp2;go_ret2;exact⟨a.o.trans (s.o.mono ax),.inl ⟨M,_,hS.o,rfl,Ij ax af.o⟩⟩
  intro er u9 u10 u11 u12 u13 u14 u15 u16 u17 u18 u19 u52 u53 u54 u55 u56 u57 u58 u59 u60 u61 u62 u63 u64 u65 u66 u67 u68 u69 u70 u71 u72 u73 u74 u75 u76 u77 u78 u79 u80 u81 u82 u83 u84 u85 u86 u87 u88 u89 u90 u91 u92 u93 u94 u95 u96 u97 u98 u99 u100 u101 u102 u103 u104 u105 u106 u107 u108 u109 u110 u111 u112 u113 u114 u115 u116 u117 u118 u119 u120 u121 u122 u123 u124 u125 u126 u127 u128 u129 u130 u131 u132 u133 u134 u135 u136 u137 u138 u139 u140 u141 u142 u143 u144 u145 u146 u147 u148 u149 u150 u151 u152 u153 u154 u155 u156 u157 u158 u159 u160 u161 u162 u163 u164 u165 u166 u167 u168 u169 u170 u171 u172 u173 u174 u175 u176 u177 u178 u179 u180 u181 u182 u183 u184 u185 u186 wq au av;replace au:=zh au;replace av:=zh av;go_ret2;exact⟨au.o,.inr ⟨er,av.o,rfl⟩⟩
theorem Ou(Aa Ab:Option Addr)(ca cb:Nat)(la:List RowH)(lb:List Raw)(w:World)(hs:SysIn w Aa Ab la lb)(h1:la.length=lb.length)(h2:allV lb=true)(h3:Dm lb.length la=true)(h8:lb.length<=8):
 Calls prog 57 #[.slice Aa lb.length ca,.slice Ab lb.length cb] w (Fs lb.length (EA (AJ la) lb) w):=by
 have hv:Ew (AJ la) lb=true:=by unfold Ew;rw[AD,zH h1,CA,h3,h2];rfl
 have hb:=Cs.1 h2
 have a:∀i (hi:i<la.length),la[i].2.2.length=lb.length/\allV la[i].2.2=true:=fun i hi=>by
  have d:i<(AJ la).length:=by rw[AD];exact hi
  have:=Il.1 ((CA lb.length la).trans h3) i d
  rwa [CW la i hi]at this
 have hg:∀i (hi:i<la.length),(AJ la).getD i []=la[i].2.2:=fun i hi=>by
  rw[C3 (by rw[AD];exact hi),CW la i hi]
 refine Ot Aa Ab lb.length ca cb la lb (EA (AJ la) lb) w h1 rfl hs hv h8 (fun i hi=>⟨(a i hi).1,fun j hj=>?_⟩) (fun i hi=>?_) (fun i j hi hj=>?_)
 .have h:j≠lb.length:=by have:=(a i hi).1;omega
  unfold EA;rw[zC h,hg i hi,C3 hj];exact(E9 (Cs.1 (a i hi).2 j hj)).1.symm
 .unfold EA;rw[zE rfl,C3 hi];exact(E9 (hb i hi)).1.symm
 unfold EA
 by_cases e:j=lb.length
 .rw[zE e,C3 hi];exact(E9 (hb i hi)).2
 have d:i<la.length:=by omega
 have h:j<la[i].2.2.length:=by have:=(a i d).1;omega
 rw[zC e,hg i d,C3 h];exact(E9 (Cs.1 (a i d).2 j h)).2
end Nt
end
section
open Go.RowKit Go.Shelf
namespace Sh
open Nt Ci
structure RdJ(w W:World)(m:Nat)(bl:Nat->Nat)(Aa Ab:Option Addr)(ca cb ia ib:Nat)(M:Mx):Prop where
 bw:Below w.heap.size w W
 oa:W.ownsRow w.heap.size 27 1 (.slice Aa ia ca) ia ((List.range ia).map fun k=>.slice (some ⟨bl k,0,none⟩) m m)
 ob:W.ownsRow w.heap.size 34 3 (.slice Ab ib cb) ib (AN ib fun k=>rq (M k m))
 ap:Apart (.slice Aa ia ca) (.slice Ab ib cb)
 rows:∀k,k<ia->RowB W (bl k) m (fun j=>rq (M k j))/\w.heap.size<=bl k/\(Value.slice Aa ia ca).ownBlock≠some (bl k)/\(Value.slice Ab ib cb).ownBlock≠some (bl k)
section
variable {w W W1 wa:World} {m ca cb ia ib rb:Nat} {bl:Nat->Nat} {Aa Ab:Option Addr} {M:Mx} {v9:Value}
theorem RdJ.start:RdJ w w m bl none none 0 0 0 0 M:=⟨zI _ _,zq _ _ _ _,zq _ _ _ _,Qn _,fun _ h=>absurd h (zi _)⟩
theorem RdJ.below(h:RdJ w W m bl Aa Ab ca cb ia ib M)(hb:Below W.heap.size W W1):RdJ w W1 m bl Aa Ab ca cb ia ib M :=
 ⟨h.bw.trans (hb.mono h.bw.size),AK h.oa hb,AK h.ob hb,h.ap,fun k hk=>by
   obtain⟨r1,r2,r3,r4⟩:=h.rows k hk;exact⟨r1.below hb r1.lt,r2,r3,r4⟩⟩
theorem Pk{n z:Nat}{base:Nat}{e:TypeId}{u:Value}{xs:List Value}(h:W.ownsRow base e z u n xs):∃A cap,u=.slice A n cap:=by
 rcases h.2 with⟨rfl,h0⟩|⟨g,cap,cur,rfl,_⟩
 .exact⟨none,0,by rw[h0]⟩
 exact⟨_,cap,rfl⟩
theorem Ov{n z:Nat}{e:TypeId}{u v:Value}{xs:List Value}{b base:Nat}(_:W1.ownsRow base e z v n xs)(hn:u.ownBlock=v.ownBlock\/u.ownBlock=some W1.heap.size)(h1:v.ownBlock≠some b)(hb:b<W1.heap.size):u.ownBlock≠some b:=fun e=>by
 rcases hn with c|c
 .exact h1 (c▸e)
 rw[c]at e;cases e;omega
theorem RdJ.appA(h:RdJ w W1 m bl Aa Ab ca cb ia ib M)(hr:RowB W1 rb m fun j=>rq (M ia j))(h0:w.heap.size<=rb)(n1:(Value.slice Aa ia ca).ownBlock≠some rb)(n2:(Value.slice Ab ib cb).ownBlock≠some rb)
 (ho:wa.ownsRow w.heap.size 27 1 v9 (ia+1) (((List.range ia).map fun k=>.slice (some ⟨bl k,0,none⟩) m m)++[.slice (some ⟨rb,0,none⟩) m m]))(hg:W1.grownBy wa (Value.slice Aa ia ca).ownBlock)
 (hn:v9.ownBlock=(Value.slice Aa ia ca).ownBlock\/v9.ownBlock=some W1.heap.size):
 ∃A9 c9,v9=.slice A9 (ia+1) c9/\RdJ w wa m (fun k=>if k=ia then rb else bl k) A9 Ab c9 cb (ia+1) ib M:=by
 obtain⟨A9,c9,rfl⟩:=Pk ho;refine⟨A9,c9,rfl,h.bw.grown hg h.bw.size fun b e=>(h.oa.lt b e).1,?_,L4 h.ob hg h.ap.symm,(J1 h.ob hn h.ap.symm).symm,?_⟩
 .have e:(List.range (ia+1)).map (fun k=>Value.slice (some ⟨if k=ia then rb else bl k,0,none⟩) m m)=((List.range ia).map fun k=>.slice (some ⟨bl k,0,none⟩) m m)++[.slice (some ⟨rb,0,none⟩) m m]:=by
   rw[xX,yf,wQ,zE rfl]
   congr 1
   refine yX fun k hk=>?_;rw[zC (by have:=List.mem_range.1 hk;omega)]
  rw[e];exact ho
 intro k hk
 by_cases e:k=ia
 .subst e;rw[zE rfl];exact⟨hr.grown hg (fun e=>n1 e.symm),h0,Ov h.oa hn n1 hr.lt,n2⟩
 rw[zC e];obtain⟨r1,r2,r3,r4⟩:=h.rows k (by omega);exact⟨r1.grown hg (fun e=>r3 e.symm),r2,Ov h.oa hn r3 r1.lt,r4⟩
theorem RdJ.appB(h:RdJ w W1 m bl Aa Ab ca cb ia ib M)(ho:wa.ownsRow w.heap.size 34 3 v9 (ib+1) ((AN ib fun k=>rq (M k m))++CI (rq (M ib m))))(hg:W1.grownBy wa (Value.slice Ab ib cb).ownBlock)
 (hn:v9.ownBlock=(Value.slice Ab ib cb).ownBlock\/v9.ownBlock=some W1.heap.size):
 ∃A9 c9,v9=.slice A9 (ib+1) c9/\RdJ w wa m bl Aa A9 ca c9 ia (ib+1) M:=by
 obtain⟨A9,c9,rfl⟩:=Pk ho;rw[<-Br ib fun k=>rq (M k m)]at ho;refine⟨A9,c9,rfl,h.bw.grown hg h.bw.size fun b e=>(h.ob.lt b e).1,L4 h.oa hg h.ap,ho,J1 h.oa hn h.ap,fun k hk=>?_⟩;obtain⟨r1,r2,r3,r4⟩:=h.rows k hk;exact⟨r1.grown hg (fun e=>r4 e.symm),r2,r3,Ov h.ob hn r4 r1.lt⟩
end
theorem RdJ.slv{n D:Nat}{w W:World}{bl:Nat->Nat}{Aa Ab:Option Addr}{ca cb:Nat}{L:List Lp}{u:List Nat}{val:Nat->Rat}(h:RdJ w W u.length bl Aa Ab ca cb u.length u.length (sysA L u val))(hL:Caps n L)(hv:Vals val D)(h8:u.length<=8):
 ∃la:List RowH,la.length=u.length/\SysIn W Aa Ab la (DN L u val)/\AJ la=CC L u val:=by
 obtain⟨_,ab,ad,_,d⟩:=h
 let la:List RowH:=(List.range u.length).map fun k=>((some ⟨bl k,0,none⟩:Option Addr),u.length,B5 u.length (sysA L u val k))
 have a:la.length=u.length:=by simp[la]
 have s:∀x∈la,∃k,k<u.length/\x=((some ⟨bl k,0,none⟩:Option Addr),u.length,B5 u.length (sysA L u val k)):=fun x hx=>by
  obtain⟨k,hk,rfl⟩:=List.mem_map.1 hx;exact⟨k,List.mem_range.1 hk,rfl⟩
 have aa:(List.range u.length).map (fun k=>Value.slice (some ⟨bl k,0,none⟩) u.length u.length)=la.map hdr:=by
  simp only[la,xC];refine yX fun k _=>?_;simp[hdr,Aq]
 obtain ⟨A1,c1,e1,hM⟩:=inMat_of_own (L:=la) (v:=.slice Aa u.length ca) (by rw[<-aa,a];exact ab) (fun x hx=>by
  obtain⟨k,hk,rfl⟩:=s x hx;exact DG (d k hk).1)
 obtain⟨A2,c2,e2,hR⟩:=BV ad;rw[a]at e1;injection e1 with q1 _ _;injection e2 with q2 _ _;subst q1;subst q2;refine⟨la,a,⟨hM,hR,by omega,by rw[show (DN L u val).length=u.length from Aq _ _];omega,fun x hx=>?_,fun x hx=>?_⟩,?_⟩
 .obtain⟨k,hk,rfl⟩:=s x hx;refine⟨by show (Nt.B5 _ _).length<=_;rw[Aq];omega,fun y hy=>?_⟩;obtain⟨j,hj,rfl⟩:=List.mem_map.1 (show y∈B5 u.length (sysA L u val k) from hy);exact Ep (ED hL hv (xA (List.mem_range.1 hj))).ok
 .obtain⟨j,hj,rfl⟩:=List.mem_map.1 (show x∈B5 u.length (fun i=>sysA L u val i u.length) from hx);exact Ep (ED hL hv (zB _)).ok
 simp[AJ,la,CC,List.map_map]
theorem Ow(Aa Ab:Option Addr)(ca cb:Nat)(la:List RowH)(lb xs:List Raw)(w:World)(hs:SysIn w Aa Ab la lb)(h:C5 (AJ la) lb=.ok xs):
 Calls prog 57 #[.slice Aa la.length ca,.slice Ab lb.length cb] w fun e w'=>(∃p c,e=.returned (.tuple #[.slice p xs.length c,.int .i64 0])/\InRow w' p xs/\∀b o,p=some ⟨b,o,none⟩->w.heap.size<=b)/\Below w.heap.size w w':=by
 by_cases hc:la.length=lb.length/\allV lb=true/\Dm lb.length la=true
 .obtain ⟨h1,h2,h3⟩:=hc
  by_cases h8:lb.length<=8
  .have key:=Ou Aa Ab ca cb la lb w hs h1 h2 h3 h8
   have he:C5 (AJ la) lb=(match Ax SQ lb.length lb.length (EA (AJ la) lb) with|.ok M=>.ok (B5 lb.length fun i=>M i lb.length)|.error e=>.error e):=by
    unfold C5;rw[AD,CA,zE ⟨h1,h2,h3⟩,zE h8]
    cases Ax SQ lb.length lb.length (EA (AJ la) lb)<;>rfl
   rw[h1];refine key.mono fun e w' ⟨hB,hr⟩=>⟨?_,hB⟩
   rcases hr with⟨M,v,hM,d,a⟩|⟨er,hM,d⟩
   .rw [hM,h]at he;injection he with he;subst he
    have s:∀b o c,v=.slice (some ⟨b,o,none⟩) lb.length c->w.heap.size<=b:=fun b o c e=>by
     rcases a.2 with⟨e1,_⟩|⟨g,cap,cur,e1,hb,_⟩
     .rw[e1]at e;cases e
     rw[e1]at e;cases e;exact hb
    obtain⟨p,c,rfl,aa⟩:=BV a;refine⟨p,c,?_,aa,fun b o e=>s b o c (by rw[e])⟩;rw[d,Aq]
   rw[hM,h]at he
   cases he
  unfold C5 at h;rw[AD,CA,zE ⟨h1,h2,h3⟩,zC h8]at h
  cases h
 unfold C5 at h;rw[AD,CA,zC hc]at h
 cases h
theorem T0{n D:Nat}{L:List Lp}{F done u:List Nat}{val:Nat->Rat}(hL:Caps n L)(hi:Inv L F done val D)(hx:Nxt L F done u)(a:done.length+u.length<=16)(h8:u.length<=8)
 {W:World}{Aa Ab:Option Addr}{ca cb:Nat}{la:List RowH}(hl:la.length=u.length)(hs:SysIn W Aa Ab la (DN L u val))(hr:AJ la=CC L u val):
 Calls prog 57 #[.slice Aa u.length ca,.slice Ab u.length cb] W fun e w'=>(∃p c,e=.returned (.tuple #[.slice p u.length c,.int .i64 0])/\InRow w' p (B5 u.length fun i=>Ct SQ L u val (u.getD i 0))/\∀b o,p=some ⟨b,o,none⟩->W.heap.size<=b)/\Below W.heap.size W w':=by
 have hb:(DN L u val).length=u.length:=Aq _ _;have h:=Ow Aa Ab ca cb la (DN L u val) _ W hs (by rw[hr];exact Hf hL hi hx a h8);rw[hl,hb,Aq]at h;exact h
theorem IV{n:Nat}{L:List Lp}{F:List Nat}(hL:Caps n L):((List.range n).filter fun p=>decide (0<rk (Ae L) F p)).length=(BP n (Ae L) F).flatten.length:=by
 have hE:=hL.inN;refine List.Perm.length_eq ((List.perm_ext_iff_of_nodup (List.nodup_range.filter _) ?_).2 fun p=>?_)
 .have h:=Ready.nodup (Fw (F:=F) hE) vY
  rwa [yW]at h
 have h:=Da (F:=F) (p:=p) hE (zB _);rw[show (BP n (Ae L) F).take (Aj n (Ae L)).length=BP n (Ae L) F by rw[yK (by unfold BP;rw[zU];exact zB _)]]at h;rw[List.mem_filter,List.mem_range,yN];constructor
 .rintro⟨h1,h2⟩;exact Sz hE h1 h2
 intro h1;have:=h.1 h1;exact⟨this.1,this.2.1⟩
end Sh
end
section
open Go.RowKit Go.Shelf
namespace Sh
open Nt Ci
theorem UD{W:World}{B m n:Nat}{e:TypeId}{u:Value}{xs:List Value}(h:W.ownsRow B e m u n xs):∃A k,u=.slice A n k:=by
 rcases h.2 with⟨rfl,h0⟩|⟨g,cap,cur,rfl,_⟩
 .exact⟨none,0,by rw[h0]⟩
 exact⟨_,cap,rfl⟩
theorem UE{W:World}{B k:Nat}{A:Option Addr}{e:TypeId}{l:List Nat}(h:W.ownsRow B e 1 (.slice A l.length k) l.length (Bz l)):InInt W A (l.map fun(q:Nat)=>(q:Int))/\∀b o,A=some ⟨b,o,none⟩->B<=b:=by
 rcases DF h with⟨h1,rfl⟩|⟨g,cap,h1,h2,h3,_,h5⟩
 .injection h1 with h1 _ _;exact⟨fun h0=>absurd h0 (by simp),fun b o e=>by rw[h1]at e;cases e⟩
 injection h1 with h1 _ _;refine⟨fun _=>⟨g,0,h1,h3,fun j hj=>?_⟩,fun b o e=>by rw[h1]at e;cases e;exact h2⟩;have:=h5 j (by simpa using hj);rw[zm,yA];exact this
theorem WL{E:List (Nat×Nat)}{F:List Int}{p:Nat}(hr:0<rk E (toN F) p):Eo F (p:Int)=-1:=by
 unfold Eo;rw[zC];intro hm;have h0:p∈toN F:=List.mem_map.2 ⟨(p:Int),hm,by simp⟩;have:=(Cv (E:=E)).2 h0;omega
theorem Pm{W:World}{A:Option Addr}{n:Nat}{o:Nat->Int}(h:InInt W A ((List.range n).map o))(hn:0<n):∃b f,A=some ⟨b,f,none⟩/\b<W.heap.size/\∀j,j<n->W.cell? ⟨b,f+j,none⟩=some (.int .i64 (o j)):=by
 obtain⟨b,f,e,h1,h2⟩:=h (by simpa using hn);refine⟨b,f,e,h1,fun j hj=>?_⟩;have:=h2 j (by simpa using hj);rw[yA,wP]at this;exact this
theorem Mi(Ac Af Ar:Option Addr)(cc cf cr n:Nat)(c:List Nat)(F:List Int)(E:List (Nat×Nat))(w:World)(hc:InInt w Ac (c.map fun(q:Nat)=>(q:Int)))(hF:InInt w Af F)(ao:F.length<=140737488355328)
 (hr:InInt w Ar ((List.range n).map (rk E (toN F))))(aa:∀p,p∈c->p<n)(av:c.length<=60)(aj:Be n F=true):
 Calls prog 53 #[.slice Ac c.length cc,.slice Af F.length cf,.slice Ar n cr] w fun e w'=>(∃A k,e=.returned (.slice A (unk E (toN F) c).length k)/\InInt w' A ((unk E (toN F) c).map fun(q:Nat)=>(q:Int))/\∀b o,A=some ⟨b,o,none⟩->w.heap.size<=b)/\Below w.heap.size w w':=by
 obtain⟨i0,ab,am⟩:=Option.map_eq_some_iff.1 Ci.Hc;simp only[Prod.mk.injEq]at am;obtain⟨ae,af,ag⟩:=am;replace ab:=zh ab;replace ae:=zh ae;replace af:=zh af;replace ag:=zh ag;replace hc:=zh hc;replace hF:=zh hF;replace hr:=zh hr;replace aa:=zh aa;replace aj:=zh aj;go_enter func53,ntmps53
 go_wp2_with fail
 go_loopw [7,8] (fun vx ix wr=>∃(i:Nat)(A:Option Addr)(k:Nat),i<=c.length/\vx=.slice A (unk E (toN F) (c.take i)).length k/\ix=.int .i64 (i:Int)/\Hid (wr.ownsRow w.heap.size 3 1 (.slice A (unk E (toN F) (c.take i)).length k) (unk E (toN F) (c.take i)).length (Bz (unk E (toN F) (c.take i))))/\Hid (Below w.heap.size w wr)) (fun _ ix _=>c.length-(intOf ix).toNat)
 case atStart=>exact⟨0,none,0,zO _,rfl,rfl,zq _ _ _ _,zI _ _⟩
 case round=>
  obtain⟨i,A,k,hi,rfl,rfl,hO,hB⟩:=hrel;obtain⟨wi,rfl⟩:∃z,z=wr:=⟨_,rfl⟩
  by_cases hil:i<c.length
  .obtain ⟨ax,ay,rfl,aw,ai⟩:=(hc.o.below hB.o) (by rw[zU];omega);have e1:=ai i (by rw[zU];exact hil);rw[yA]at e1;have ak:=aa.o _ (zQ hil);have a:=LJ (E:=E) (F:=toN F) hil;have ar:(unk E (toN F) (c.take i)).length<=60:=zV H6 (by rw[xY];omega);obtain⟨p,hp⟩:∃p,p=c[i]:=⟨_,rfl⟩;rw[<-hp]at e1 ak a;replace hp:=zh hp;clear ai;obtain⟨rb,ro,rfl,r9,al⟩:=Pm (hr.o.below hB.o) (by omega);have r1:=al p ak;have h:=WL (E:=E) (F:=F) (p:=p);clear al;have kx:=Kz Af cf F (p:Int) wi (hF.o.below hB.o) ao;have j0:(0:Int)<=(i:Int):=by omega
   have j1:(i:Int)<(c.length:Int):=by omega
   have q0:(0:Int)<=(p:Int):=by omega
   have q1:(p:Int)<(n:Int):=by omega
   generalize rk E (toN F) p=rv at r1 a h
   by_cases hrv:0<rv
   rotate_left
   .have t1:decide (0<rv)=false:=zD hrv;rw[zC hrv,wT]at a;have aq:Hid (wi.ownsRow w.heap.size 3 1 (.slice A (unk E (toN F) (c.take (i+1))).length k) (unk E (toN F) (c.take (i+1))).length (Bz (unk E (toN F) (c.take (i+1))))):=by rw[a];exact hO.o
    have ad:(unk E (toN F) (c.take i)).length=(unk E (toN F) (c.take (i+1))).length:=by rw[a]
    replace a:=zh a;replace hrv:=zh hrv;replace ad:=zh ad;clear hO kx h;go_wp2;exact⟨⟨i+1,A,k,by omega,by rw[ad.o],by go_num,aq,hB⟩,by simp only[intOf];omega⟩
   have t1:decide (0<rv)=true:=zH hrv;rw[zE hrv]at a;rw[h hrv]at kx;replace hrv:=zh hrv;replace kx:=zh kx;clear h;obtain⟨m,hm⟩:∃m,m=(unk E (toN F) (c.take i)).length:=⟨_,rfl⟩;rw[<-hm];rw[<-hm]at hO ar;have ah:Hid ((wi.alloc (.cells #[.int .i64 (p:Int)] 3)).ownsRow w.heap.size 3 1 (.slice A m k) m (Bz (unk E (toN F) (c.take i)))):=AK hO.o ((zI _ _).alloc (zB _) _);have s:Hid (Below w.heap.size w (wi.alloc (.cells #[.int .i64 (p:Int)] 3))):=hB.o.alloc hB.o.size _;have had:Hid (∀j u,[Value.int .i64 (p:Int)][j]? = some u->(wi.alloc (.cells #[.int .i64 (p:Int)] 3)).cell? (Addr.add ⟨wi.heap.size,0,none⟩ j)=some u):=Ci.BA wi _ 3;replace hm:=zh hm;replace a:=zh a
   go_wp2_with fail
   refine kx.o.q fun wx au=>?_;obtain rfl:=au.symm;clear kx
   go_wp2_with (at_builtin;refine Ci.wpList_append_new _ rfl _ _ 26 rfl w.heap.size 3 i0 (.int .i64 0) 1 8 underlying26 ab.o ae.o af.o ag.o rfl (by decide) (.slice A m k) m (Bz (unk E (toN F) (c.take i))) rfl ah.o ⟨wi.heap.size,0,none⟩ 1 1 [.int .i64 (p:Int)] rfl rfl had.o (Ci.AQ _ rfl) (by omega) (by unfold maxLen;omega) (by omega) s.o.size ?_;intro v9 wa ho hg hn;rw[<-DE,<-a.o]at ho;have an:Hid (Below w.heap.size w wa):=s.o.grown hg s.o.size (fun b e=>(ah.o.lt b e).1);have d:m+1=(unk E (toN F) (c.take (i+1))).length:=(by rw[a.o,zY,hm.o];rfl);rw[d]at ho;obtain⟨A9,k9,rfl⟩:=UD ho;replace ho:=zh ho;replace d:=zh d;clear hg hn)
   exact⟨⟨i+1,A9,k9,by omega,rfl,by go_num,ho,an⟩,by simp only[intOf];omega⟩
  obtain rfl:i=c.length:=by omega
  have hf:=UE hO.o;rw[yJ]at hf;have he:(unk E (toN F) (c.take c.length)).length=(unk E (toN F) c).length:=by rw[yJ]
  replace hf:=zh hf;replace he:=zh he;go_wp2;go_ret;exact⟨⟨A,k,by first|rfl|(rw[he.o];rfl),hf.o.1,hf.o.2⟩,hB.o⟩
theorem rq_zero:rq 0=(false,⟨#[48]⟩,⟨#[49]⟩):=by decide +kernel
theorem VW:rq 1=(false,⟨#[49]⟩,⟨#[49]⟩):=by decide +kernel
theorem GM(w:World):Calls prog 50 #[] w fun e w'=>e=.returned (.agg #[.bool (rq 0).1,.string (rq 0).2.1,.string (rq 0).2.2])/\Below w.heap.size w w':=by
 rw[rq_zero];have a:Hid (Bk (w.alloc (.cells #[.bool false,.string ⟨#[]⟩,.string ⟨#[]⟩] 34)) w.heap.size 34 [.bool false,.string ⟨#[]⟩,.string ⟨#[]⟩]):=Bk.new _ _ _;have s:Hid (Below w.heap.size w (w.alloc (.cells #[.bool false,.string ⟨#[]⟩,.string ⟨#[]⟩] 34))):=(zI _ w).alloc (zB _) _;have h:Hid (Below w.heap.size w (w.alloc (.cells #[.bool false,.string ⟨#[48]⟩,.string ⟨#[49]⟩] 34))):=(zI _ w).alloc (zB _) _;have d:Hid (Bk (w.alloc (.cells #[.bool false,.string ⟨#[48]⟩,.string ⟨#[49]⟩] 34)) w.heap.size 34 [.bool false,.string ⟨#[48]⟩,.string ⟨#[49]⟩]):=Bk.new _ _ _;have c0:=a.o.c0;have c1:=a.o.c1;have c2:=a.o.c2;have f0:=a.o.frozen 0;have f1:=a.o.frozen 1;have f2:=a.o.frozen 2;have c9:=a.o.lt;go_enter func50,ntmps50;go_wp2;have s0:=d.o.c0;have s1:=d.o.c1;have s2:=d.o.c2;have s9:=d.o.lt;refine zX (v:=.agg #[.bool false,.string ⟨#[48]⟩,.string ⟨#[49]⟩]) (by simp[results,results50,go_sem,s0,s1,s2]) rfl ⟨rfl,h.o⟩
theorem Mj(w:World):Calls prog 52 #[] w fun e w'=>e=.returned (.agg #[.bool (rq 1).1,.string (rq 1).2.1,.string (rq 1).2.2])/\Below w.heap.size w w':=by
 rw[VW];have a:Hid (Bk (w.alloc (.cells #[.bool false,.string ⟨#[]⟩,.string ⟨#[]⟩] 34)) w.heap.size 34 [.bool false,.string ⟨#[]⟩,.string ⟨#[]⟩]):=Bk.new _ _ _;have s:Hid (Below w.heap.size w (w.alloc (.cells #[.bool false,.string ⟨#[]⟩,.string ⟨#[]⟩] 34))):=(zI _ w).alloc (zB _) _;have h:Hid (Below w.heap.size w (w.alloc (.cells #[.bool false,.string ⟨#[49]⟩,.string ⟨#[49]⟩] 34))):=(zI _ w).alloc (zB _) _;have d:Hid (Bk (w.alloc (.cells #[.bool false,.string ⟨#[49]⟩,.string ⟨#[49]⟩] 34)) w.heap.size 34 [.bool false,.string ⟨#[49]⟩,.string ⟨#[49]⟩]):=Bk.new _ _ _;have c0:=a.o.c0;have c1:=a.o.c1;have c2:=a.o.c2;have f0:=a.o.frozen 0;have f1:=a.o.frozen 1;have f2:=a.o.frozen 2;have c9:=a.o.lt;go_enter func52,ntmps52;go_wp2;have s0:=d.o.c0;have s1:=d.o.c1;have s2:=d.o.c2;have s9:=d.o.lt;refine zX (v:=.agg #[.bool false,.string ⟨#[49]⟩,.string ⟨#[49]⟩]) (by simp[results,results52,go_sem,s0,s1,s2]) rfl ⟨rfl,h.o⟩
def inV(F:List Nat)(p:Nat):Rat:=if p∈F then 1 else 0
noncomputable def Gy(E:List (Nat×Nat))(F:List Nat)(k:Nat):Nat:=((List.range k).filter fun p=>decide (0<rk E F p)).length
theorem T1{E:List (Nat×Nat)}{F:List Nat}(k:Nat):Gy E F (k+1)=Gy E F k+if 0<rk E F k then 1 else 0:=by
 unfold Gy;rw[xX,yx,zY]
 congr 1
 by_cases c:0<rk E F k<;>simp[c]
theorem T3{E:List (Nat×Nat)}{F:List Nat}(k:Nat):Gy E F k<=k:=by
 unfold Gy;have h:=yD (fun p=>decide (0<rk E F p)) (List.range k)
 rwa [yV]at h
theorem VX(a b:Rat):a+-1*b=a-b:=by grind
theorem UF{n:Int}{F:List Int}(h:Be n F=true)(p:Nat):p∈toN F<->(p:Int)∈F:=by
 unfold toN;rw[vj];constructor
 .rintro⟨y,hy,rfl⟩;obtain⟨i,hi,rfl⟩:=zl hy;rw[Int.toNat_of_nonneg (DH h hi).1.1];exact zQ hi
 intro h;exact⟨(p:Int),h,by simp⟩
theorem UG{n:Nat}{L:List Lp}{F:List Nat}(hL:Caps n L):Gy (Ae L) F n=(CF n (Ae L) F (Aj n (Ae L)).length).flatten.length:=by
 rw[DI];exact IV hL
noncomputable def EK(n:Nat)(L:List Lp)(F:List Nat)(t:Nat):Nat->Rat:=Lt SQ L (Dh n (Ae L) F t) (inV F)
section
variable {n:Nat} {L:List Lp} {F:List Nat} {t:Nat}
theorem QM:EK n L F 0=inV F:=by
 unfold EK Dh CF;simp only[xj,vX,List.filter_nil];rfl
theorem T4:EK n L F (Aj n (Ae L)).length=Hq SQ n L F:=by
 unfold EK Hq;rw[LE];rfl
theorem T5(h:t<(Aj n (Ae L)).length)(h0:unk (Ae L) F (Aj n (Ae L))[t]=[]):EK n L F (t+1)=EK n L F t:=by
 unfold EK;rw[LF h h0]
theorem QN(h:t<(Aj n (Ae L)).length)(h0:unk (Ae L) F (Aj n (Ae L))[t]≠[]):EK n L F (t+1)=Ct SQ L (unk (Ae L) F (Aj n (Ae L))[t]) (EK n L F t):=by
 unfold EK;rw[GK h h0,GI]
theorem Ml(_:t<=(Aj n (Ae L)).length):∃rest,Df n (Ae L) F=Dh n (Ae L) F t++rest:=by
 refine⟨(((Aj n (Ae L)).drop t).map (unk (Ae L) F)).filter fun u=>decide (u≠[]),?_⟩;unfold Df BP Dh CF;rw[<-yx,<-yf,yt]
theorem T6(hL:Caps n L)(s:(Df n (Ae L) F).flatten.length<=16)(h:t<(Aj n (Ae L)).length)(h0:unk (Ae L) F (Aj n (Ae L))[t]≠[]):
 ∃ D,D<=6000^16/\Inv L F (Dh n (Ae L) F t).flatten (EK n L F t) D/\Nxt L F (Dh n (Ae L) F t).flatten (unk (Ae L) F (Aj n (Ae L))[t]) /\
  (Dh n (Ae L) F t).flatten.length+(unk (Ae L) F (Aj n (Ae L))[t]).length<=16:=by
 obtain⟨r1,e1⟩:=Ml (F:=F) (xA h);obtain⟨r2,e2⟩:=Ml (F:=F) (t:=t+1) h;rw[GK h h0,xS]at e2;have hR:=Hg (F:=F) hL;have hk:(Dh n (Ae L) F t).length<(Df n (Ae L) F).length:=by rw[e2];simp
 have d:(Df n (Ae L) F).take (Dh n (Ae L) F t).length=Dh n (Ae L) F t:=by rw[e1];simp
 have a:(Df n (Ae L) F)[(Dh n (Ae L) F t).length]=unk (Ae L) F (Aj n (Ae L))[t]:=by
  simp only[e2];rw[List.getElem_append_right (zB _)];simp
 obtain⟨D,hD,hI⟩:=JF hL hR s (Dh n (Ae L) F t).length;have hN:=I5 hR hk;have hf:=JE hk;rw[d]at hI hN hf;rw[a]at hN hf;refine⟨D,hD,?_,hN,by omega⟩
 have e:Dn L F (Df n (Ae L) F) (Dh n (Ae L) F t).length=EK n L F t:=by
  unfold Dn EK;rw[d];rfl
 rwa [e]at hI
end
end Sh
end
end Go.Proofs.YtmfjbpcecpgchaaGreatDoor

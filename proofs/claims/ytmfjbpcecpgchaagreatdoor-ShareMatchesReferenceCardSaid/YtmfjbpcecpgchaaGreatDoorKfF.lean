/- Parts of the proof. -/
import Derived.Test.YtmfjbpcecpgchaaGreatDoorKfE
set_option maxHeartbeats 64000000
set_option maxRecDepth 1000000
open Go.Proofs.Tryz
namespace Go.Proofs.YtmfjbpcecpgchaaGreatDoor
theorem tkfF{P:Program}{md:Region.Mode}{ops:Array Oper}{Q:Exit->Act->World->Prop}{S:World->Prop}{oi:Oper}{v:Value}{fuel:Nat}{listed:Array Bool}{a:Act}{w:World}(i:Nat)(hi:ops[i]?=some oi)(hS:S w)(hy:YieldsIf P ops S oi v a)(h:wpAnyH P md ops Q S fuel (listed.setIfInBounds i true) (a.put oi.dst v) w)(hs:Region.noSelect ops=true:=by kernel_rfl)(hf:Region.free md ops listed i=true:=by kernel_rfl)(hr:(Region.ready md ops listed).contains i=true:=by kernel_rfl)(hQ:∀c a w,Q (.panic c) (a.put oi.dst v) w->Q (.panic c) a w:=by exact fun _ _ _ h=>h):wpAnyH P md ops Q S (fuel+1) listed a w:=yp hi hs hf hr hQ hy hS h
section
open Go.RowKit Go.Shelf
namespace Sh
open Nt Ci
theorem ED{n D:Nat}{L:List Lp}{u:List Nat}{val:Nat->Rat}(hL:Caps n L)(hv:Vals val D){i j:Nat}(hj:j<=u.length):ShortQ (sysA L u val i j):=by
 by_cases e:j=u.length
 .rw[e,<-I1];exact FU hL hv
 rw[<-I0 (val:=val) (by omega:j<u.length)];exact FT hL
theorem DG{W:World}{b n:Nat}{f:Nat->Rat}(h:RowB W b n fun j=>rq (f j)):InRow W (some ⟨b,0,none⟩) (B5 n f):=fun _=>⟨b,0,rfl,h.lt,fun j hj=>by
 have a:j<n:=by rwa [Aq]at hj
 obtain⟨c1,c2,c3⟩:=h.cell a;rw[Ej];rw[zm];exact⟨c1,c2,c3⟩⟩
theorem BdI.slv{n D:Nat}{w W:World}{xb:Nat}{uv:Value}{L:List Lp}{u:List Nat}{val:Nat->Rat}(h:BdI w W xb u.length u.length uv (sysA L u val))(hL:Caps n L)(hv:Vals val D)(h8:u.length<=8):
 ∃(Aa Ab:Option Addr)(ca cb:Nat)(la:List RowH),Kp [xb] w W/\Bk W xb 79 [uv,.slice Aa u.length ca,.slice Ab u.length cb]/\la.length=u.length/\SysIn W Aa Ab la (DN L u val)/\AJ la=CC L u val:=by
 obtain⟨Aa,Ab,ca,cb,bl,hK,hx,ab,ad,ae,d⟩:=h
 let la:List RowH:=(List.range u.length).map fun k=>((some ⟨bl k,0,none⟩:Option Addr),u.length,B5 u.length (sysA L u val k))
 have a:la.length=u.length:=by simp[la]
 have s:∀x∈la,∃k,k<u.length/\x=((some ⟨bl k,0,none⟩:Option Addr),u.length,B5 u.length (sysA L u val k)):=fun x hx=>by
  obtain⟨k,hk,rfl⟩:=List.mem_map.1 hx;exact⟨k,List.mem_range.1 hk,rfl⟩
 have aa:(List.range u.length).map (fun k=>Value.slice (some ⟨bl k,0,none⟩) u.length u.length)=la.map hdr:=by
  simp only[la,xC];refine yX fun k _=>?_;simp[hdr,Aq]
 obtain ⟨A1,c1,e1,hM⟩:=inMat_of_own (L:=la) (v:=.slice Aa u.length ca) (by rw[<-aa,a];exact ab) (fun x hx=>by
  obtain⟨k,hk,rfl⟩:=s x hx;exact DG (d k hk).1)
 obtain⟨A2,c2,e2,hR⟩:=BV ad;rw[a]at e1;injection e1 with q1 _ _;injection e2 with q2 _ _;subst q1;subst q2;refine⟨Aa,Ab,ca,cb,la,hK,hx,a,⟨hM,hR,by omega,by rw[show (DN L u val).length=u.length from Aq _ _];omega,fun x hx=>?_,fun x hx=>?_⟩,?_⟩
 .obtain⟨k,hk,rfl⟩:=s x hx;refine⟨by show (B5 _ _).length<=_;rw[Aq];omega,fun y hy=>?_⟩;obtain⟨j,hj,rfl⟩:=List.mem_map.1 (show y∈B5 u.length (sysA L u val k) from hy);exact Ep (ED hL hv (xA (List.mem_range.1 hj))).ok
 .obtain⟨j,hj,rfl⟩:=List.mem_map.1 (show x∈B5 u.length (fun i=>sysA L u val i u.length) from hx);exact Ep (ED hL hv (zB _)).ok
 simp[AJ,la,CC,List.map_map]
theorem Uu{n D:Nat}{L:List Lp}{F done u:List Nat}{val:Nat->Rat}(hL:Caps n L)(hi:Inv L F done val D)(hx:Nxt L F done u)(a:done.length+u.length<=16)(h8:u.length<=8)
 {W:World}{Aa Ab:Option Addr}{ca cb:Nat}{la:List RowH}(hE:Env W)(hl:la.length=u.length)(hs:SysIn W Aa Ab la (DN L u val))(hr:AJ la=CC L u val):
 Calls prog 45 #[.slice Aa u.length ca,.slice Ab u.length cb] W fun e w'=>(∃p c,e=.returned (.tuple #[.slice p u.length c,.int .i64 0])/\InRow w' p (B5 u.length fun i=>Ct SQ L u val (u.getD i 0)))/\Below W.heap.size W w':=by
 have h:=Us Aa Ab ca cb la (DN L u val) W hE hs;have hb:(DN L u val).length=u.length:=Aq _ _;rw[hr,Hf hL hi hx a h8,hl,hb]at h;refine h.mono fun e w' ⟨⟨p,c,e1,e2⟩,hB⟩=>⟨⟨p,c,?_,e2⟩,hB⟩;rw[e1]
 show Ending.returned (.tuple #[.slice p (B5 u.length _).length c,.int .i64 0])=_
 rw[Aq]
structure VMC(w:World)(vb mb n:Nat)(val:Nat->Rat)(C:Nat):Prop where
 x:Bk w vb 73 [.map (some mb)]
 m:∃c f,MapK prog 3 κi w mb c f/\c<=C/\∀p:Nat,p<n->match f (p:Int) with|some v=>v=qv (val p)|none=>val p=0
 ne:vb≠mb
section
variable {w w':World} {vb mb n C:Nat} {val:Nat->Rat}
theorem VMC.vm(h:VMC w vb mb n val C)(hC:C<=100000):VM w vb mb n val:=by
 obtain⟨c,f,h1,h2,h3⟩:=h.m;exact⟨h.x,c,f,h1,by omega,h3⟩
theorem VMC.lt(h:VMC w vb mb n val C):mb<w.heap.size:=by
 obtain⟨c,f,h1,_⟩:=h.m;exact h1.lt
theorem VMC.kp{xs:List Nat}(h:VMC w vb mb n val C)(hk:Kp xs w w')(h1:vb∉xs)(h2:mb∉xs):VMC w' vb mb n val C:=by
 obtain⟨c,f,a1,a2,a3⟩:=h.m;exact⟨h.x.kp hk h1,⟨c,f,a1.block (hk.block mb a1.lt h2),a2,a3⟩,h.ne⟩
theorem VMC.below(h:VMC w vb mb n val C)(hb:Below w.heap.size w w'):VMC w' vb mb n val C:=by
 obtain⟨c,f,a1,a2,a3⟩:=h.m;exact⟨h.x.below hb,⟨c,f,a1.below hb,a2,a3⟩,h.ne⟩
theorem VMC.congr{val':Nat->Rat}(h:VMC w vb mb n val C)(e:∀p,p<n->val' p=val p):VMC w vb mb n val' C:=by
 obtain⟨c,f,a1,a2,a3⟩:=h.m;exact⟨h.x,⟨c,f,a1,a2,fun p hp=>by rw[e p hp];exact a3 p hp⟩,h.ne⟩
theorem VMC.put(h:VMC w vb mb n val C)(hC:C<100000){p:Nat}(hp:p<100000)(q:Rat):
 ∃w',(Instr.mapUpdate 73 (.map (some mb)) (.int .i64 (p:Int)) (qv q)).run prog w=.ok () w'/\VMC w' vb mb n (fun x=>if x=p then q else val x) (C+1)/\w.grownBy w' (some mb):=by
 obtain⟨c,f,a1,a2,a3⟩:=h.m;obtain⟨w',r1,r2,r3⟩:=a1.put G6 FO underlying73 (by unfold maxLen;omega) (EI underlying3 (a:=(p:Int)) (by omega) (by omega)) (qv q);refine⟨w',r1,⟨h.x.grown r3 (by simpa using h.ne),⟨_,_,r2,?_,fun x hx=>?_⟩,h.ne⟩,r3⟩
 .split<;>omega
 by_cases e:x=p
 .subst e;rw[Cn,zE rfl]
 rw[Cg (by omega),zC e];exact a3 x hx
end
theorem inInt_kp{w w':World}{xs:List Nat}{A:Option Addr}{l:List Int}(h:InInt w A l)(hk:Kp xs w w')(hb:∀b o,A=some ⟨b,o,none⟩->b∉xs):InInt w' A l:=fun h0=>by
 obtain⟨b,o,e,hl,hc⟩:=h h0;have d:=hk.block b hl (hb b o e);exact⟨b,o,e,zL hl hk.size,fun j hj=>(zR (a:=⟨b,o+j,none⟩) d).trans (hc j hj)⟩
structure EntB(W:World)(B xb:Nat)(A:Option Addr)(c:Nat)(u:List Nat):Prop where
 x:Bk W xb 79 [.slice A u.length c,.slice none 0 0,.slice none 0 0]
 o:W.ownsRow B 3 1 (.slice A u.length c) u.length (Bz u)
 nx:(Value.slice A u.length c).ownBlock≠some xb
section
variable {W W':World} {B xb c:Nat} {A:Option Addr} {u:List Nat}
theorem EntB.start(h:Bk W xb 79 [.slice none 0 0,.slice none 0 0,.slice none 0 0]):EntB W B xb none 0 [] :=
 ⟨h,zq _ _ _ _,by simp[Value.ownBlock]⟩
theorem EntB.below(h:EntB W B xb A c u)(hb:Below W.heap.size W W'):EntB W' B xb A c u:=⟨h.x.below hb,AK h.o hb,h.nx⟩
theorem EntB.inInt(h:EntB W B xb A c u):InInt W A (u.map fun(q:Nat)=>(q:Int)):=fun h0=>by
 rcases DF h.o with⟨e,e2⟩|⟨g,cap,e,h1,h2,_,h4⟩
 .rw[e2]at h0;simp at h0
 injection e with e1 _ _;refine⟨g,0,e1,h2,fun j hj=>?_⟩;have a:j<u.length:=by simpa using hj
 rw[yA,zm];exact h4 j a
theorem EntB.blk(h:EntB W B xb A c u)(b o:Nat)(e:A=some ⟨b,o,none⟩):B<=b/\b<W.heap.size/\b≠xb:=by
 rcases DF h.o with⟨e1,_⟩|⟨g,cap,e1,h1,h2,_,_⟩
 .injection e1 with e1 _ _;rw[e]at e1;cases e1
 injection e1 with e1 _ _;have hb:b=g:=by rw[e]at e1;injection e1 with e1;injection e1
 subst hb;have ho:o=0:=by rw[e]at e1;injection e1 with e1;injection e1
 subst ho;refine⟨h1,h2,fun hx=>h.nx ?_⟩;rw[e,<-hx];rfl
theorem EntB.step(h:EntB W B xb A c u){p:Nat}{v':Value}{w':World}(ho:w'.ownsRow B 3 1 v' (u.length+1) (Bz u++[.int .i64 (p:Int)]))(hg:W.grownBy w' (Value.slice A u.length c).ownBlock)
 (hn:v'.ownBlock=(Value.slice A u.length c).ownBlock\/v'.ownBlock=some W.heap.size):∃A' c',v'=.slice A' (u.length+1) c'/\EntB (w'.setCell ⟨xb,0,none⟩ v') B xb A' c' (u++[p])/\Bk w' xb 79 [.slice A u.length c,.slice none 0 0,.slice none 0 0]:=by
 obtain⟨A',c',rfl⟩:=Ci.Cu ho;have hx:=h.x.grown hg fun e=>h.nx e.symm
 have a:(Value.slice A' (u.length+1) c').ownBlock≠some xb:=fun e=>by
  rcases hn with c1|c1
  .exact h.nx (c1▸e)
  rw[c1]at e;cases e;exact absurd h.x.lt (vi _)
 have hl:(u++[p]).length=u.length+1:=by simp
 refine⟨A',c',rfl,⟨?_,?_,?_⟩,hx⟩
 .rw[hl];exact hx.set 0 _
 .rw[hl,DE];exact OS ho ((Kp.refl [xb] w').set _ (.inl (by simp))) (fun b e hb=>a (by rw[e,List.mem_singleton.1 hb]))
 rw[hl];exact a
end
structure Ent where
 x:Nat
 A:Option Addr
 c:Nat
 u:List Nat
def Ent.pt(e:Ent):Value:=.pointer (some ⟨e.x,0,none⟩)
structure SyM(W:World)(B:Nat)(v:Value)(E:List Ent):Prop where
 row:W.ownsRow B 76 1 v E.length (E.map Ent.pt)
 ent:∀e,e∈E->Bk W e.x 79 [.slice e.A e.u.length e.c,.slice none 0 0,.slice none 0 0]/\InInt W e.A (e.u.map fun(q:Nat)=>(q:Int))/\B<=e.x
 blk:∀e,e∈E->∀b o,e.A=some ⟨b,o,none⟩->B<=b/\b<W.heap.size/\∀f,f∈E->b≠f.x
 nd:(E.map Ent.x).Nodup
 rb:∀b,v.ownBlock=some b->∀e,e∈E->b≠e.x/\∀o,e.A≠some ⟨b,o,none⟩
section
variable {W W':World} {B:Nat} {v:Value} {E:List Ent}
theorem SyM.start(W:World)(B:Nat):SyM W B (.slice none 0 0) [] :=
 ⟨zq _ _ _ _,(fun e h=>by cases h),(fun e h=>by cases h),vY,fun b e=>by cases e⟩
theorem SyM.below(h:SyM W B v E)(hb:Below W.heap.size W W'):SyM W' B v E :=
 ⟨AK h.row hb,fun e he=>⟨(h.ent e he).1.below hb,(h.ent e he).2.1.below hb,(h.ent e he).2.2⟩,fun e he b o q=>by
   obtain⟨h1,h2,h3⟩:=h.blk e he b o q;exact⟨h1,zL h2 hb.size,h3⟩,h.nd,h.rb⟩
theorem SyM.add{W2 W3:World}{v':Value}{e:Ent}(h:SyM W B v E)(hB:B<=W.heap.size)(hb:Below W.heap.size W W2)(hx:Bk W2 e.x 79 [.slice e.A e.u.length e.c,.slice none 0 0,.slice none 0 0])(hi:InInt W2 e.A (e.u.map fun(q:Nat)=>(q:Int)))
 (hn:W.heap.size<=e.x)(hA:∀b o,e.A=some ⟨b,o,none⟩->W.heap.size<=b/\b<W2.heap.size/\b≠e.x)
 (ho:W3.ownsRow B 76 1 v' (E.length+1) (E.map Ent.pt++[e.pt]))(hg:W2.grownBy W3 v.ownBlock)(hv:v'.ownBlock=v.ownBlock\/∃b,v'.ownBlock=some b/\W2.heap.size<=b):SyM W3 B v' (E++[e]):=by
 have h2:=h.below hb;have rlt:∀b,v.ownBlock=some b->b<W.heap.size:=fun b q=>(h.row.lt b q).2;have xlt:∀f,f∈E->f.x<W.heap.size:=fun f hf=>(h.ent f hf).1.lt;have key:∀f,f∈E++[e]->f∈E\/f=e:=fun f hf=>by simpa using hf
 refine⟨by rw[zY,yf];exact ho,fun f hf=>?_,fun f hf b o q=>?_,?_,fun b q f hf=>?_⟩
 .rcases key f hf with c|rfl
  .obtain⟨e1,e2,e3⟩:=h2.ent f c;refine⟨e1.grown hg fun q=>(h.rb _ q.symm f c).1 rfl,fun h0=>?_,e3⟩;obtain⟨b,o,q,hl,hc⟩:=e2 h0;refine⟨b,o,q,zL hl hg.size,fun j hj=>(zR (a:=⟨b,o+j,none⟩) (hg.block b hl fun z=>?_)).trans (hc j hj)⟩;exact(h.rb b z.symm f c).2 o q
  refine⟨hx.grown hg fun q=>?_,fun h0=>?_,zV hB hn⟩
  .have:=rlt _ q.symm;omega
  obtain⟨b,o,q,hl,hc⟩:=hi h0;refine⟨b,o,q,zL hl hg.size,fun j hj=>(zR (a:=⟨b,o+j,none⟩) (hg.block b hl fun z=>?_)).trans (hc j hj)⟩;have:=rlt _ z.symm;have:=(hA b o q).1;omega
 .rcases key f hf with c|rfl
  .obtain⟨e1,e2,e3⟩:=h.blk f c b o q;refine⟨e1,zL e2 (zV hb.size hg.size),fun g s=>?_⟩
   rcases key g s with d|rfl
   .exact e3 g d
   omega
  obtain⟨e1,e2,e3⟩:=hA b o q;refine⟨by omega,zL e2 hg.size,fun g s=>?_⟩
  rcases key g s with d|rfl
  .have:=xlt g d;omega
  exact e3
 .rw[yf,wQ];refine List.nodup_append.2 ⟨h.nd,by simp,fun a ha b ab=>?_⟩;obtain⟨f,hf,rfl⟩:=List.mem_map.1 ha;rw[List.mem_singleton.1 ab];have:=xlt f hf;omega
 have aa:v.ownBlock=some b\/W2.heap.size<=b:=by
  rcases hv with c|⟨b2,c,d⟩
  .exact .inl (c▸q)
  rw[c]at q;cases q;exact .inr d
 have ad:e.x<W2.heap.size:=hx.lt;have af:=hb.size
 rcases key f hf with c|rfl
 .rcases aa with d|d
  .exact h.rb b d f c
  refine⟨by have:=xlt f c;omega,fun o z=>?_⟩;have:=(h.blk f c b o z).2.1;omega
 rcases aa with d|d
 .have ae:=rlt b d;refine⟨by omega,fun o z=>?_⟩;have:=(hA b o z).1;omega
 refine⟨by omega,fun o z=>?_⟩;have:=(hA b o z).2.1;omega
end
end Sh
end
section
open Go.RowKit Go.Shelf
namespace Sh
open Nt Ci
theorem SN(k:Int)(q:Rat)(hq:(k:Rat)=q)(hk:-10<=k/\k<=10)(w:World)(hE:Env w):
 Calls prog 42 #[.int .i64 k] w fun e w'=>e=.returned (.agg #[.bool (rq q).1,.string (rq q).2.1,.string (rq q).2.2])/\Below w.heap.size w w':=Gn k q hq hk w hE
theorem OT{w:World}{vb mb n C:Nat}{val:Nat->Rat}(h:VMC w vb mb n val C)(hC:C<100000){p:Nat}(hp:p<100000)(q:Rat):
 ∃w',(Instr.mapUpdate 73 (.map (some mb)) (.int .i64 (p:Int)) (.agg #[.bool (rq q).1,.string (rq q).2.1,.string (rq q).2.2])).run prog w=.ok () w'/\VMC w' vb mb n (fun x=>if x=p then q else val x) (C+1)/\w.grownBy w' (some mb):=h.put hC hp q
noncomputable def efR(j:Nat):Code:=((Tryz.f13.body.map Ci.Bt).bind fun l=>l.find? (Ny j)).getD .skip
theorem ef9{c0 c1 c2 c3 c4 c5 c6 c7 c8 c9 bx bz bA bB bC bD bE bF bG bH bI bJ bK bL bM bN bO bP bQ bR bS bT bU bW bX bY bZ b0 b1 b2 b3 b4 b5 b6 b7 b8 b9 cc cd ce cf cg ch ci cj ck cl cm cn co cq cr ct cu cv cw cx cy cz cA cB cC cD cE cF cG cH cI cJ cK cL cM cN cP cR cS cT cU cV cW cX cY cZ da db s aa ab ad ae af ag ah ai aj ak al am an ao aq ar au av aw ax ay az aA aB aC aD aE aF aG aH aI aJ aK aL aM aN aO aP aQ aR aS aT aU aV aW aX aY aZ a0 a1 a2 a3 a4 a5 a6 a7 a8 a9 ba bb bc bd be bf bg bh bi bj bk bm bn bo bp bq br bs bt de df dg:Value}{Q:Exit->Act->World->Prop}(vb mb n C p:Nat)(val:Nat->Rat)(w:World)(hE:Env w)(hV:VMC w vb mb n val C)(hC:C<100000)(hp:p<100000)
 (h:∀(u58 u59 u60:Value)(W:World)(_:Hid (VMC W vb mb n (fun x=>if x=p then 1 else val x) (C+1)))(_:Hid (Kp [mb] w W)),Q .normal ⟨#[c0,c1,c2,c3,c4,c5,c6,c7,c8,c9,.pointer (some ⟨vb,0,none⟩),bx,.int .i64 (p:Int),bz,bA,bB,bC,bD,bE,bF,bG,bH,bI,bJ,bK,bL,bM,bN,bO,bP,bQ,bR,bS,bT,bU,bW,bX,bY,bZ,b0,b1,b2,b3,b4,b5,b6,b7,b8,b9,cc,cd,ce,cf,cg,ch,ci,cj,ck,u58,u59,u60,cl,cm,cn,co,cq,cr,ct,cu,cv,cw,cx,cy,cz,cA,cB,cC,cD,cE,cF,cG,cH,cI,cJ,cK,cL,cM,cN,cP,cR,cS,cT,cU,cV,cW,cX,cY,cZ,da,db,s,aa,ab,ad,ae,af,ag,ah,ai,aj,ak,al,am,an,ao,aq,ar,au,av,aw,ax,ay,az,aA,aB,aC,aD,aE,aF,aG,aH,aI,aJ,aK,aL,aM,aN,aO,aP,aQ,aR,aS,aT,aU,aV,aW,aX,aY,aZ,a0,a1,a2,a3,a4,a5,a6,a7,a8,a9,ba,bb,bc,bd,be,bf,bg,bh,bi,bj,bk,bm,bn,bo,bp,bq,br,bs,bt],[]⟩ W):
 Code.wp prog (efR 9) Q ⟨#[c0,c1,c2,c3,c4,c5,c6,c7,c8,c9,.pointer (some ⟨vb,0,none⟩),bx,.int .i64 (p:Int),bz,bA,bB,bC,bD,bE,bF,bG,bH,bI,bJ,bK,bL,bM,bN,bO,bP,bQ,bR,bS,bT,bU,bW,bX,bY,bZ,b0,b1,b2,b3,b4,b5,b6,b7,b8,b9,cc,cd,ce,cf,cg,ch,ci,cj,ck,de,df,dg,cl,cm,cn,co,cq,cr,ct,cu,cv,cw,cx,cy,cz,cA,cB,cC,cD,cE,cF,cG,cH,cI,cJ,cK,cL,cM,cN,cP,cR,cS,cT,cU,cV,cW,cX,cY,cZ,da,db,s,aa,ab,ad,ae,af,ag,ah,ai,aj,ak,al,am,an,ao,aq,ar,au,av,aw,ax,ay,az,aA,aB,aC,aD,aE,aF,aG,aH,aI,aJ,aK,aL,aM,aN,aO,aP,aQ,aR,aS,aT,aU,aV,aW,aX,aY,aZ,a0,a1,a2,a3,a4,a5,a6,a7,a8,a9,ba,bb,bc,bd,be,bf,bg,bh,bi,bj,bk,bm,bn,bo,bp,bq,br,bs,bt],[]⟩ w:=by
 conv=>arg 2;whnf
 conv=>arg 4;zeta
 replace h:=zh h;have bu:Hid (Below w.heap.size w w.drew):=(zI _ w).drew;have kn:=zh (fun W hW=>SN 1 1 (by decide +kernel) (by omega) W hW);have di:Hid (w.drew.cell? ⟨vb,0,none⟩=some (.map (some mb))):=(hV.below (zI _ w).drew).x.c0;replace hE:=zh hE;replace hV:=zh hV;refine yS ?_;refine yU (S:=fun W=>W.cell? ⟨vb,0,none⟩=some (.map (some mb))) (by kernel_rfl) (di.o) (fun a=>?_);replace a:=zh a;refine tkfF (v:=?_) 0 rfl (a.o) (Or.inl ⟨by rfl,?_⟩) ?_;rotate_left
 . (intro w bv;obtain q1:=bv;go_simp<;>with_reducible rfl)
 try simp only[Act.put,zA]
 refine tkfF (v:=?_) 1 rfl (a.o) (Or.inl ⟨by rfl,?_⟩) ?_;rotate_left
 . (intro w bv;obtain q1:=bv;go_simp<;>with_reducible rfl)
 try simp only[Act.put]
 refine zP (rs:=[2]) (by kernel_rfl) (by simp) ?_;refine zK (o:=_) rfl (fun K hK=>?_) ?_
 .go_simp;refine(kn.o _ (hE.o.below bu.o)).q fun W2 hb=>?_;have dc:Hid (Below w.heap.size w W2):=bu.o.trans (hb.mono bu.o.size);have dd:Hid (VMC W2 vb mb n val C):=hV.o.below dc.o;clear hb;refine hK.o _ _ (dd.o.x.c0) (fun _=>?_);clear hK K
  try simp only[Act.put,zA,zG,zF]
  obtain⟨W3,dj,d,hg⟩:=OT dd.o hC hp 1;have dh:Hid (Kp [mb] w W3):=((Kp.refl [mb] w).below dc.o).grown hg (fun b e=>.inl (by cases e;simp));replace d:=zh d;clear hg;refine zP (rs:=[3]) (by kernel_rfl) (by simp) ?_;refine zK (o:=_) rfl (fun K hK=>?_) ?_
  .go_simp;refine hK.o _ _ (d.o.x.c0) (fun _=>?_);clear hK K
   try simp only[Act.put,zA,zG,zF]
   refine ym (by kernel_rfl) ?_ _;refine yF ?_;exact h.o _ _ _ _ d dh
  exact zN
 exact zN
theorem WX{c0 c1 c2 c3 c4 c5 c6 c7 c8 c9 bz bA bB bC bD bE bF bG bH bI bJ bK bL bM bN bO bP bQ bR bS bT bU bW bX bY bZ b0 b1 b2 b3 b4 b5 b6 b7 b8 b9 cc cd ce cf cg ch ci cj ck cl cm cn co cq cr ct cv cw cx cy cz cA cB cC cD cE cF cG cH cI cJ cK cL cM cN cP cR cS cT cU cV cW cX cY cZ da db dc dd de ad ae af ag ah ai aj ak al am an ao aq ar au av aw ax ay az aA aB aC aD aE aF aG aH aI aJ aK aL aM aN aO aP aQ aR aS aT aU aV aW aX aY aZ a0 a1 a2 a3 a4 a5 a6 a7 a8 a9 ba bb bc bd be bf bg bh bi bj bk bm bn bo bp bq br bs bt bu bv bx:Value}{Q:Exit->Act->World->Prop}(vb mb n C p xb ub uo m cu i lb:Nat)(q:Rat)(val:Nat->Rat)(w:World)(hV:VMC w vb mb n val C)(hC:C<100000)(hp:p<100000)(hi:i<m)(hx:w.cell? ⟨xb,0,none⟩=some (.slice (some ⟨ub,uo,none⟩) m cu))(dg:xb<w.heap.size)(hu:w.cell? ⟨ub,uo+i,none⟩=some (.int .i64 (p:Int)))(df:ub<w.heap.size)(hl:Bk w lb 34 [.bool (rq q).1,.string (rq q).2.1,.string (rq q).2.2])(n1:xb≠mb)(n2:ub≠mb)(n3:lb≠mb)
 (h:∀(u150 u151 u152 u153 u154 u155 u156 u157 u158:Value)(W:World)(_:Hid (VMC W vb mb n (fun x=>if x=p then q else val x) (C+1)))(_:Hid (Kp [mb] w W)),Q .normal ⟨#[c0,c1,c2,c3,c4,c5,c6,c7,c8,c9,.pointer (some ⟨vb,0,none⟩),bz,bA,bB,bC,bD,bE,bF,bG,bH,bI,bJ,.pointer (some ⟨xb,0,none⟩),bK,bL,.int .i64 (i:Int),.pointer (some ⟨lb,0,none⟩),bM,bN,bO,bP,bQ,bR,bS,bT,bU,bW,bX,bY,bZ,b0,b1,b2,b3,b4,b5,b6,b7,b8,b9,cc,cd,ce,cf,cg,ch,ci,cj,ck,cl,cm,cn,co,cq,cr,ct,cv,cw,cx,cy,cz,cA,cB,cC,cD,cE,cF,cG,cH,cI,cJ,cK,cL,cM,cN,cP,cR,cS,cT,cU,cV,cW,cX,cY,cZ,da,db,dc,dd,de,ad,ae,af,ag,ah,ai,aj,ak,al,am,an,ao,aq,ar,au,av,aw,ax,ay,az,aA,aB,aC,aD,aE,aF,aG,aH,aI,aJ,aK,aL,aM,aN,aO,aP,aQ,aR,aS,aT,aU,aV,aW,aX,aY,aZ,a0,a1,a2,a3,u150,u151,u152,u153,u154,u155,u156,u157,u158,a4,a5,a6,a7,a8,a9,ba,bb,bc,bd,be,bf,bg,bh,bi,bj,bk,bm,bn],[]⟩ W):
 Code.wp prog (efR 40) Q ⟨#[c0,c1,c2,c3,c4,c5,c6,c7,c8,c9,.pointer (some ⟨vb,0,none⟩),bz,bA,bB,bC,bD,bE,bF,bG,bH,bI,bJ,.pointer (some ⟨xb,0,none⟩),bK,bL,.int .i64 (i:Int),.pointer (some ⟨lb,0,none⟩),bM,bN,bO,bP,bQ,bR,bS,bT,bU,bW,bX,bY,bZ,b0,b1,b2,b3,b4,b5,b6,b7,b8,b9,cc,cd,ce,cf,cg,ch,ci,cj,ck,cl,cm,cn,co,cq,cr,ct,cv,cw,cx,cy,cz,cA,cB,cC,cD,cE,cF,cG,cH,cI,cJ,cK,cL,cM,cN,cP,cR,cS,cT,cU,cV,cW,cX,cY,cZ,da,db,dc,dd,de,ad,ae,af,ag,ah,ai,aj,ak,al,am,an,ao,aq,ar,au,av,aw,ax,ay,az,aA,aB,aC,aD,aE,aF,aG,aH,aI,aJ,aK,aL,aM,aN,aO,aP,aQ,aR,aS,aT,aU,aV,aW,aX,aY,aZ,a0,a1,a2,a3,bo,bp,bq,br,bs,bt,bu,bv,bx,a4,a5,a6,a7,a8,a9,ba,bb,bc,bd,be,bf,bg,bh,bi,bj,bk,bm,bn],[]⟩ w:=by
 conv=>arg 2;whnf
 conv=>arg 4;zeta
 replace h:=zh h;have dh:Hid (w.drew.cell? ⟨vb,0,none⟩=some (.map (some mb))/\w.drew.cell? ⟨xb,0,none⟩=some (.slice (some ⟨ub,uo,none⟩) m cu)/\w.drew.cell? ⟨ub,uo+i,none⟩=some (.int .i64 (p:Int))/\w.drew.cell? ⟨lb,0,none⟩=some (.bool (rq q).1)/\w.drew.cell? ⟨lb,1,none⟩=some (.string (rq q).2.1)/\w.drew.cell? ⟨lb,2,none⟩=some (.string (rq q).2.2)):=⟨hV.x.c0,hx,hu,hl.c0,hl.c1,hl.c2⟩;have j0:(0:Int)<=(i:Int):=by omega
 have j1:(i:Int)<(m:Int):=by omega
 obtain⟨W3,dj,ab,hg⟩:=OT (w:=w.drew) (hV.below (zI _ w).drew) hC hp q;have aa:Hid (Kp [mb] w W3):=((Kp.refl [mb] w).drew).grown hg (fun b e=>.inl (by cases e;simp));have di:Hid (W3.cell? ⟨vb,0,none⟩=some (.map (some mb))/\W3.cell? ⟨xb,0,none⟩=some (.slice (some ⟨ub,uo,none⟩) m cu)/\W3.cell? ⟨ub,uo+i,none⟩=some (.int .i64 (p:Int))/\W3.cell? ⟨lb,0,none⟩=some (.bool (rq q).1)/\W3.cell? ⟨lb,1,none⟩=some (.string (rq q).2.1)/\W3.cell? ⟨lb,2,none⟩=some (.string (rq q).2.2)):=⟨ab.x.c0,(zR (a:=⟨xb,0,none⟩) (aa.o.block xb dg (by simpa using n1))).trans hx,(zR (a:=⟨ub,uo+i,none⟩) (aa.o.block ub df (by simpa using n2))).trans hu,(hl.kp aa.o (by simpa using n3)).c0,(hl.kp aa.o (by simpa using n3)).c1,(hl.kp aa.o (by simpa using n3)).c2⟩;have dl:xb<w.drew.heap.size:=dg;have ul1:ub<w.drew.heap.size:=df;have dk:lb<w.drew.heap.size:=hl.lt;replace hV:=zh hV;replace hl:=zh hl;replace ab:=zh ab;replace hx:=zh hx;replace hu:=zh hu;clear hg;refine yS ?_;refine yU (S:=fun W=>W.cell? ⟨vb,0,none⟩=some (.map (some mb))/\W.cell? ⟨xb,0,none⟩=some (.slice (some ⟨ub,uo,none⟩) m cu)/\W.cell? ⟨ub,uo+i,none⟩=some (.int .i64 (p:Int))/\W.cell? ⟨lb,0,none⟩=some (.bool (rq q).1)/\W.cell? ⟨lb,1,none⟩=some (.string (rq q).2.1)/\W.cell? ⟨lb,2,none⟩=some (.string (rq q).2.2)) (by kernel_rfl) (dh.o) (fun s=>?_);replace s:=zh s;refine tkfF (v:=?_) 0 rfl (s.o) (Or.inl ⟨by rfl,?_⟩) ?_;rotate_left
 . (intro w d;obtain⟨q1,q2,q3,q4,q5,q6⟩:=d;go_simp<;>with_reducible rfl)
 try simp only[Act.put,zA]
 refine tkfF (v:=?_) 1 rfl (s.o) (Or.inl ⟨by rfl,?_⟩) ?_;rotate_left
 . (intro w d;obtain⟨q1,q2,q3,q4,q5,q6⟩:=d;go_simp<;>with_reducible rfl)
 try simp only[Act.put]
 refine tkfF (v:=?_) 2 rfl (s.o) (Or.inl ⟨by rfl,?_⟩) ?_;rotate_left
 . (intro w d;obtain⟨q1,q2,q3,q4,q5,q6⟩:=d;go_simp<;>with_reducible rfl)
 try simp only[Act.put]
 refine tkfF (v:=?_) 3 rfl (s.o) (Or.inl ⟨by rfl,?_⟩) ?_;rotate_left
 . (intro w d;obtain⟨q1,q2,q3,q4,q5,q6⟩:=d;go_simp<;>with_reducible rfl)
 try simp only[Act.put]
 refine tkfF (v:=?_) 4 rfl (s.o) (Or.inl ⟨by rfl,?_⟩) ?_;rotate_left
 . (intro w d;obtain⟨q1,q2,q3,q4,q5,q6⟩:=d;go_simp<;>with_reducible rfl)
 try simp only[Act.put]
 refine tkfF (v:=?_) 5 rfl (s.o) (Or.inl ⟨by rfl,?_⟩) ?_;rotate_left
 . (intro w d;obtain⟨q1,q2,q3,q4,q5,q6⟩:=d;go_simp<;>with_reducible rfl)
 try simp only[Act.put]
 refine tkfF (v:=?_) 6 rfl (s.o) (Or.inl ⟨by rfl,?_⟩) ?_;rotate_left
 . (intro w d;obtain⟨q1,q2,q3,q4,q5,q6⟩:=d;go_simp<;>with_reducible rfl)
 try simp only[Act.put]
 refine tkfF (v:=?_) 7 rfl (s.o) (Or.inl ⟨by rfl,?_⟩) ?_;rotate_left
 . (intro w d;obtain⟨q1,q2,q3,q4,q5,q6⟩:=d;go_simp<;>with_reducible rfl)
 try simp only[Act.put]
 refine tkfF (v:=?_) 8 rfl (s.o) (Or.inl ⟨by rfl,?_⟩) ?_;rotate_left
 . (intro w d;obtain⟨q1,q2,q3,q4,q5,q6⟩:=d;go_simp<;>with_reducible rfl)
 try simp only[Act.put]
 refine zP (rs:=[9]) (by kernel_rfl) (by simp) ?_;refine zK (o:=_) rfl (fun K hK=>?_) ?_
 .go_simp;refine hK.o _ _ (di.o) (fun _=>?_);clear hK K
  try simp only[Act.put,zA,zG,zF]
  refine ym (by kernel_rfl) ?_ _;refine yF ?_;exact h.o _ _ _ _ _ _ _ _ _ _ ab aa
 exact zN
end Sh
end
section
namespace Ci
def DO(E:List (Nat×Nat)):Nat->Nat->Nat->Prop
 |0,i,j=>i=j\/(i,j)∈E
 |k+1,i,j=>DO E k i j\/(DO E k i k/\DO E k k j)
section
variable {E:List (Nat×Nat)} {n i j k m:Nat}
theorem J6:∀k,DO E k i i
 |0=>.inl rfl
 |k+1=>.inl (J6 k)
theorem OU:DO E (k+1) i k<->DO E k i k:=⟨fun h=>h.elim id fun h=>h.1,.inl⟩
theorem L7:DO E (k+1) k j<->DO E k k j:=⟨fun h=>h.elim id fun h=>h.2,.inl⟩
theorem N1:∀k m i j,m<k->DO E k i m->DO E k m j->DO E k i j:=by
 intro k
 induction k with
 |zero=>intro m i j h;omega
 |succ k ih=>
  intro m i j hm h1 h2
  by_cases e:m=k
  .subst e;exact .inr ⟨OU.1 h1,L7.1 h2⟩
  have a:m<k:=by omega
  rcases h1 with h1|⟨h1,h3⟩
  .rcases h2 with h2|⟨h2,h4⟩
   .exact .inl (ih m i j a h1 h2)
   exact .inr ⟨ih m i k a h1 h2,h4⟩
  rcases h2 with h2|⟨_,h4⟩
  .exact .inr ⟨h1,ih m k j a h3 h2⟩
  exact .inr ⟨h1,h4⟩
theorem N7:∀k i j,DO E k i j->Reach E i j:=by
 intro k
 induction k with
 |zero=>
  rintro i j (rfl|h)
  .exact .refl _
  exact .one h
 |succ k ih=>
  rintro i j (h|⟨h1,h2⟩)
  .exact ih i j h
  exact(ih i k h1).trans (ih k j h2)
theorem J7(h:DO E 0 i j):∀k,DO E k i j
 |0=>h
 |k+1=>.inl (J7 h k)
theorem SO(hE:InN n E):DO E n i j<->Reach E i j:=by
 constructor
 .exact N7 n i j
 intro h;refine h.closed (C:=fun x=>DO E n i x) (J6 n) fun a b ha e=>?_;exact N1 n a i b (hE _ e).1 ha (J7 (.inr e) n)
def Tab(E:List (Nat×Nat))(n k i j:Nat)(T:Nat->Nat->Prop):Prop :=
 ∀a b,a<n->b<n->(T a b<->if a<i\/(a=i/\b<j) then DO E (k+1) a b else DO E k a b)
theorem Tab.row{T:Nat->Nat->Prop}(h:Tab E n k i j T)(hk:k<n){a:Nat}(ha:a<n):T a k<->DO E k a k:=by
 rw[h a k ha hk]
 split
 .exact OU
 exact wY
theorem Tab.col{T:Nat->Nat->Prop}(h:Tab E n k i j T)(hk:k<n){b:Nat}(hb:b<n):T k b<->DO E k k b:=by
 rw[h k b hk hb]
 split
 .exact L7
 exact wY
theorem Tab.step{T T':Nat->Nat->Prop}(h:Tab E n k i j T)(hk:k<n)(hi:i<n)(hj:j<n)(hT:∀a b,T' a b<->T a b\/(a=i/\b=j/\T i k/\T k j)):Tab E n k i (j+1) T':=by
 intro a b ha hb;rw[hT]
 by_cases e:a=i/\b=j
 .obtain⟨rfl,rfl⟩:=e;rw[zE (by omega),h.row hk ha,h.col hk hb,h a b ha hb,zC (by omega)];exact⟨fun c=>c.elim .inl fun c=>.inr c.2.2,fun c=>c.elim .inl fun c=>.inr ⟨rfl,rfl,c⟩⟩
 rw[h a b ha hb];have e2:¬(a=i/\b=j/\T i k/\T k j):=fun c=>e ⟨c.1,c.2.1⟩
 by_cases c:a<i\/(a=i/\b<j)
 .rw[zE c,zE (by omega)];exact⟨fun x=>x.elim id fun y=>absurd y e2,.inl⟩
 rw[zC c,zC (by omega)];exact⟨fun x=>x.elim id fun y=>absurd y e2,.inl⟩
theorem Tab.next{T:Nat->Nat->Prop}(h:Tab E n k i n T):Tab E n k (i+1) 0 T:=by
 intro a b ha hb;rw[h a b ha hb]
 by_cases c:a<i\/(a=i/\b<n)
 .rw[zE c,zE (by omega)]
 rw[zC c,zC (by omega)]
theorem Tab.round{T:Nat->Nat->Prop}(h:Tab E n k n 0 T):Tab E n (k+1) 0 0 T:=by
 intro a b ha hb;rw[h a b ha hb,zE (.inl ha),zC (by omega)]
theorem Tab.end{T:Nat->Nat->Prop}(h:Tab E n n 0 0 T)(hE:InN n E){a b:Nat}(ha:a<n)(hb:b<n):T a b<->Reach E a b:=by
 rw[h a b ha hb,zC (by omega)];exact SO hE
end
end Ci
end
section
namespace Ci
open Classical
section
variable {E:List (Nat×Nat)} {n p q x:Nat}
def L8(E:List (Nat×Nat)):List (Nat×Nat):=E.map fun e=>(e.2,e.1)
theorem Fa:(p,q)∈L8 E<->(q,p)∈E:=by
 unfold L8;rw[vj];constructor
 .rintro⟨⟨a,b⟩,h,e⟩;simp only[Prod.mk.injEq]at e;rw[<-e.1,<-e.2];exact h
 exact fun h=>⟨(q,p),h,rfl⟩
theorem Uv(h:InN n E):InN n (L8 E):=fun x hx=>by
 obtain⟨a,b⟩:=x;have:=h _ (Fa.1 hx);exact⟨this.2,this.1⟩
theorem N8(h:Reach E p q):Reach (L8 E) q p :=
 h.closed (C:=fun x=>Reach (L8 E) x p) (.refl p) fun _ _ ha e=>(Reach.one (Fa.2 e)).trans ha
theorem J8:Reach (L8 E) p q<->Reach E q p:=⟨fun h=>h.closed (C:=fun x=>Reach E x p) (.refl p) fun _ _ ha e=>(Reach.one (Fa.1 e)).trans ha,N8⟩
def PL(E:List (Nat×Nat))(p q x:Nat):Prop:=fst E x<p\/(Mut E p x/\x<q)
noncomputable def lsO(E:List (Nat×Nat))(n p x:Nat):List Nat:=if x<p/\fst E x=x then CD n E x else []
noncomputable def Ah(E:List (Nat×Nat))(p q:Nat):List Nat:=(List.range q).filter fun y=>decide (Mut E p y)
noncomputable def lsQ(E:List (Nat×Nat))(n p q x:Nat):List Nat:=if x=p then Ah E p q else lsO E n p x
noncomputable def cO(E:List (Nat×Nat))(p:Nat):Nat:=((List.range p).filter fun y=>decide (fst E y=y)).length
noncomputable def cQ(E:List (Nat×Nat))(p q:Nat):Nat:=if Ah E p q=[] then cO E p else cO E p+1
theorem OV(hp:p<n):CD n E p≠[]:=fun h=>by
 have:=Db.2 ⟨hp,Mut.refl (E:=E) p⟩;rw[h]at this
 cases this
theorem J9:Ah E p 0=[]:=rfl
theorem Co:Ah E p (q+1)=if Mut E p q then Ah E p q++[q] else Ah E p q:=by
 unfold Ah;rw[xX,yx,yv]
 by_cases h:Mut E p q
 .rw[zE h,zE (zH h)];rfl
 rw[zC h,zC (by rw[zD h];simp)];simp
theorem L9:Ah E p n=CD n E p:=rfl
theorem Er:lsQ E n p 0 x=lsO E n p x:=by
 unfold lsQ
 by_cases e:x=p
 .rw[zE e,J9];unfold lsO;rw[zC (by omega)]
 rw[zC e]
theorem SP(h:¬Mut E p q):lsQ E n p (q+1) x=lsQ E n p q x:=by
 unfold lsQ;rw[Co,zC h]
theorem SS(h:Mut E p q):lsQ E n p (q+1) x=if x=p then lsQ E n p q x++[q] else lsQ E n p q x:=by
 unfold lsQ;rw[Co,zE h]
 by_cases e:x=p
 .rw[zE e,zE e,zE e]
 rw[zC e,zC e,zC e]
theorem Gp:cQ E p 0=cO E p:=zE rfl
theorem Uw(h:¬Mut E p q):cQ E p (q+1)=cQ E p q:=by unfold cQ;rw[Co,zC h]
theorem Ux(h:Mut E p q):cQ E p (q+1)=if lsQ E n p q p=[] then cQ E p q+1 else cQ E p q:=by
 unfold cQ lsQ;rw[Co,zE h,zC (by simp),zE rfl]
 by_cases e:Ah E p q=[]
 .rw[zE e,zE e]
 rw[zC e,zC e]
theorem Kr(h:¬Mut E p q):PL E p (q+1) x<->PL E p q x:=by
 unfold PL;constructor
 .rintro(a|⟨a,b⟩)
  .exact .inl a
  by_cases e:x=q
  .subst e;exact absurd a h
  exact .inr ⟨a,by omega⟩
 rintro(a|⟨a,b⟩)
 .exact .inl a
 exact .inr ⟨a,by omega⟩
theorem H4(h:Mut E p q):PL E p (q+1) x<->PL E p q x\/x=q:=by
 unfold PL;constructor
 .rintro(a|⟨a,b⟩)
  .exact .inl (.inl a)
  by_cases e:x=q
  .exact .inr e
  exact .inl (.inr ⟨a,by omega⟩)
 rintro((a|⟨a,b⟩)|e)
 .exact .inl a
 .exact .inr ⟨a,by omega⟩
 subst e;exact .inr ⟨h,by omega⟩
theorem EE:PL E p 0 x<->fst E x<p:=⟨fun h=>h.elim id fun h=>absurd h.2 (zi _),.inl⟩
theorem ST:PL E p 0 p<->fst E p≠p:=by
 have:=H8 (Mut.refl (E:=E) p);rw[EE];omega
theorem N9(h:fst E p≠p):PL E (p+1) 0 x<->PL E p 0 x:=by
 rw[EE,EE];constructor
 .intro h1
  by_cases e:fst E x=p
  .exact absurd (by rw[<-e,Fn]) h
  omega
 omega
theorem Ks(h:fst E p=p)(hx:x<n):PL E (p+1) 0 x<->PL E p n x:=by
 rw[EE];unfold PL;constructor
 .intro h1
  by_cases e:fst E x=p
  .exact .inr ⟨Fm.1 (by rw[e,h]),hx⟩
  exact .inl (by omega)
 rintro(a|⟨a,_⟩)
 .omega
 have:=Ey a;omega
theorem Uy(h:fst E p≠p):lsO E n (p+1) x=lsO E n p x:=by
 unfold lsO
 by_cases e:x<p/\fst E x=x
 .rw[zE e,zE ⟨by omega,e.2⟩]
 rw[zC e,zC];rintro⟨a,b⟩
 by_cases c:x=p
 .subst c;exact h b
 exact e ⟨by omega,b⟩
theorem SU(h:fst E p=p):lsO E n (p+1) x=lsQ E n p n x:=by
 unfold lsO lsQ
 by_cases e:x=p
 .subst e;rw[zE rfl,zE ⟨by omega,h⟩,L9]
 rw[zC e];unfold lsO
 by_cases c:x<p/\fst E x=x
 .rw[zE c,zE ⟨by omega,c.2⟩]
 rw[zC c,zC fun d=>c ⟨by omega,d.2⟩]
theorem OW:cO E (p+1)=if fst E p=p then cO E p+1 else cO E p:=by
 unfold cO;rw[xX,yx,zY,yv]
 by_cases h:fst E p=p
 .rw[zE h,zE (zH h)];rfl
 rw[zC h,zC (by rw[zD h];simp)];simp
theorem Uz(h:fst E p=p)(hp:p<n):cQ E p n=cO E (p+1):=by
 rw[OW,zE h];unfold cQ;rw[L9,zC (OV hp)]
theorem VB:cO E n=(leasts n E).length:=rfl
theorem WC:cO E p<=p:=by
 have:=yD (fun y=>decide (fst E y=y)) (List.range p);rw[yV]at this;exact this
theorem WD:cQ E p q<=p+1:=by
 unfold cQ;have:=WC (E:=E) (p:=p)
 split<;>omega
theorem OX(hx:x<n):lsO E n n x=if x∈leasts n E then CD n E x else []:=by
 unfold lsO
 by_cases h:fst E x=x
 .rw[zE ⟨hx,h⟩,zE (B8.2 ⟨hx,h⟩)]
 rw[zC fun c=>h c.2,zC fun c=>h (B8.1 c).2]
theorem VC(hx:x<n):PL E n 0 x:=EE.2 (FF hx)
end
end Ci
end
section
open Go.RowKit Go.Shelf
namespace Ci
open Nt
def Qr(W:World)(A:Option Addr)(l:List (Option Addr×Nat×List Int)):Prop :=
 0<l.length->∃b off,A=some ⟨b,off,none⟩/\b<W.heap.size/\∀j (h:j<l.length),W.cell? ⟨b,off+j,none⟩=some (.slice l[j].1 l[j].2.2.length l[j].2.1)/\InInt W l[j].1 l[j].2.2/\l[j].2.2.length<=140737488355328
def baR(l:List (Option Addr×Nat×List Int)):List (List Int):=l.map fun x=>x.2.2
end Ci
end
section
open Go.RowKit Go.Shelf
namespace Ci
open Nt
open Classical
structure P1(E:List (Nat×Nat))(n:Nat)(w0:World)(S p q:Nat)(v:Nat->Value)(F:Nat->Int)(wr:World):Prop where
 kp:Kp [S,S+1,S+1+1] w0 wr
 lm:LM wr w0.heap.size S n (cQ E p q) v (lsQ E n p q)
 pl:∃c f,MapK prog 3 κi wr (S+1+1) c f/\c<=1000*p+q/\∀x:Nat,x<n->f (x:Int)=if PL E p q x then some (.bool true) else none
 ro:RoI wr (S+1) n F
 fs:∀x,x<n->PL E p q x->F x=(fst E x:Int)
section
variable {E:List (Nat×Nat)} {n p q S:Nat} {w0 wr w':World} {v:Nat->Value} {F:Nat->Int}
theorem LM.congr{w:World}{B mb c c':Nat}{ls ls':Nat->List Nat}(h:LM w B mb n c v ls)(e:∀x,ls x=ls' x)(ec:c=c'):LM w B mb n c' v ls':=by
 obtain rfl:ls=ls':=funext e;subst ec;exact h
theorem P1.below(h:P1 E n w0 S p q v F wr)(hb:Below wr.heap.size wr w'):P1 E n w0 S p q v F w':=by
 obtain⟨c,f,h1,h2⟩:=h.pl;exact⟨h.kp.below hb,h.lm.below hb,⟨c,f,h1.below hb,h2⟩,h.ro.below hb,h.fs⟩
theorem P1.had(h:P1 E n w0 S p 0 v F wr)(hp:fst E p≠p):P1 E n w0 S (p+1) 0 v F wr:=by
 obtain⟨c,f,h1,h2,h3⟩:=h.pl;refine⟨h.kp,h.lm.congr (fun x=>?_) ?_,⟨c,f,h1,by omega,fun x hx=>?_⟩,h.ro,fun x hx hP=>h.fs x hx ((N9 hp).1 hP)⟩
 .rw[Er,Er,Uy hp]
 .rw[Gp,Gp,OW,zC hp]
 rw[h3 x hx]
 by_cases e:PL E p 0 x
 .rw[zE e,zE ((N9 hp).2 e)]
 rw[zC e,zC fun c=>e ((N9 hp).1 c)]
theorem P1.next(h:P1 E n w0 S p n v F wr)(hp:fst E p=p)(a:p<n)(hn:n<=1000):P1 E n w0 S (p+1) 0 v F wr:=by
 obtain⟨c,f,h1,h2,h3⟩:=h.pl;refine⟨h.kp,h.lm.congr (fun x=>?_) ?_,⟨c,f,h1,by omega,fun x hx=>?_⟩,h.ro,fun x hx hP=>h.fs x hx ((Ks hp hx).1 hP)⟩
 .rw[Er,SU hp]
 .rw[Gp,Uz hp a]
 rw[h3 x hx]
 by_cases e:PL E p n x
 .rw[zE e,zE ((Ks hp hx).2 e)]
 rw[zC e,zC fun c=>e ((Ks hp hx).1 c)]
theorem P1.skip(h:P1 E n w0 S p q v F wr)(hm:¬Mut E p q):P1 E n w0 S p (q+1) v F wr:=by
 obtain⟨c,f,h1,h2,h3⟩:=h.pl;refine⟨h.kp,h.lm.congr (fun x=>(SP hm).symm) (Uw hm).symm,⟨c,f,h1,by omega,fun x hx=>?_⟩,h.ro,fun x hx hP=>h.fs x hx ((Kr hm).1 hP)⟩;rw[h3 x hx]
 by_cases e:PL E p q x
 .rw[zE e,zE ((Kr hm).2 e)]
 rw[zC e,zC fun c=>e ((Kr hm).1 c)]
theorem P1.look(h:P1 E n w0 S p 0 v F wr)(d:p<n)(hn:n<=1000):(Instr.lookup 107 (.map (some (S+1+1))) (.int .i64 (p:Int)) false).run prog wr=.ok (.bool (bV (fst E p≠p))) wr:=by
 obtain⟨c,f,h1,_,h3⟩:=h.pl;have:=h1.look FO underlying107 (OP wr) (EI underlying3 (a:=(p:Int)) (by omega) (by omega));rw[this,h3 p d]
 by_cases e:fst E p≠p
 .rw[zE (ST.2 e),A7 e];rfl
 rw[zC fun c=>e (ST.1 c),At e];rfl
theorem ReachM.look{mb:Nat}{w:World}(h:ReachM w n mb E p)(hq:q<n)(hn:n<=1000):(Instr.lookup 107 (.map (some mb)) (.int .i64 (q:Int)) false).run prog w=.ok (.bool (bV (Reach E p q))) w:=by
 obtain⟨c,f,h1,h3⟩:=h;have:=h1.look FO underlying107 (OP w) (EI underlying3 (a:=(q:Int)) (by omega) (by omega));rw[this,h3 q hq]
 by_cases e:Reach E p q
 .rw[zE e,A7 e];rfl
 rw[zC e,At e];rfl
theorem ReachM.below{mb:Nat}{w:World}(h:ReachM w n mb E p)(hb:Below w.heap.size w w'):ReachM w' n mb E p:=by
 obtain⟨c,f,h1,h3⟩:=h;exact⟨c,f,h1.below hb,h3⟩
theorem ReachM.kp{mb:Nat}{xs:List Nat}{w:World}(h:ReachM w n mb E p)(hk:Kp xs w w')(hm:mb∉xs):ReachM w' n mb E p:=by
 obtain⟨c,f,h1,h3⟩:=h;exact⟨c,f,h1.kp hk hm,h3⟩
theorem P1.start(E:List (Nat×Nat))(n:Nat)(wS:World)(t:TypeId):
 P1 E n (((wS.alloc (.map #[] 0)).alloc (.cells (madeCells #[.int .i64 0] n) t)).alloc (.map #[] 0)) wS.heap.size 0 0 (fun _=>.slice none 0 0) (fun _=>0) (((wS.alloc (.map #[] 0)).alloc (.cells (madeCells #[.int .i64 0] n) t)).alloc (.map #[] 0)):=by
 have s1:(wS.alloc (.map #[] 0)).heap.size=wS.heap.size+1:=by simp
 have s2:((wS.alloc (.map #[] 0)).alloc (.cells (madeCells #[.int .i64 0] n) t)).heap.size=wS.heap.size+1+1:=by simp
 have hR:=(RoI.made (wS.alloc (.map #[] 0)) n t).alloc (.map #[] 0);rw[s1]at hR;have hM:=MapK.made ((wS.alloc (.map #[] 0)).alloc (.cells (madeCells #[.int .i64 0] n) t)) prog 3 κi;rw[s2]at hM;refine⟨Kp.refl _ _,(((LM.made wS _ n).alloc _).alloc _).congr (fun x=>?_) ?_,⟨0,_,hM,zO _,fun x _=>?_⟩,hR,fun x _ hP=>?_⟩
 .rw[Er];unfold lsO;rw[zC (by omega)]
 .rw[Gp];rfl
 .rw[zC fun c=>by have:=EE.1 c;omega]
 have:=EE.1 hP;omega
theorem P1.step(h:P1 E n w0 S p q v F wr)(an:w0.heap.size=S+3)(hm:Mut E p q)(ab:p<n)(am:q<n)(hn:n<=1000)(al:fst E p=p):
 ∃ W1,(Instr.mapUpdate 107 (.map (some (S+1+1))) (.int .i64 (q:Int)) (.bool true)).run prog wr=.ok () W1/\W1.heap.size=W1.heap.size/\RoI W1 (S+1) n F /\
  (∀ W2,W2=W1.setCell ⟨S+1,q,none⟩ (.int .i64 (p:Int))->(Instr.lookup 106 (.map (some S)) (.int .i64 (p:Int)) false).run prog W2=.ok (v p) W2/\wr.heap.size<=W2.heap.size /\
    ∀ W3,W3=W2.alloc (.cells #[.int .i64 (q:Int)] 3)->W3.ownsRow w0.heap.size 3 1 (v p) (lsQ E n p q p).length (Bz (lsQ E n p q p)) /\
     ∀ vb wb,wb.ownsRow w0.heap.size 3 1 vb ((lsQ E n p q p).length+1) (Bz (lsQ E n p q p)++[.int .i64 (q:Int)])->W3.grownBy wb (v p).ownBlock->(vb.ownBlock=(v p).ownBlock\/vb.ownBlock=some W3.heap.size) ->
      ∃ W4,(Instr.mapUpdate 106 (.map (some S)) (.int .i64 (p:Int)) vb).run prog wb=.ok () W4/\P1 E n w0 S p (q+1) (fun i=>if i=p then vb else v i) (E0 F q (p:Int)) W4 /\
       (∀w6,Kp [S,S+1,S+1+1] w6 wr->(∀b,(v p).ownBlock=some b->w6.heap.size<=b)->Kp [S,S+1,S+1+1] w6 W4/\∀b,vb.ownBlock=some b->w6.heap.size<=b)):=by
 obtain⟨c,f,h1,h2,h3⟩:=h.pl;obtain⟨W1,ah,ai,aa⟩:=h1.put G6 FO underlying107 (by unfold maxLen;omega) (EI underlying3 (a:=(q:Int)) (by omega) (by omega)) (.bool true);have d:∀x b,x<n->(v x).ownBlock=some b->w0.heap.size<=b:=fun x b hx e=>((h.lm.rows x hx).lt b e).1
 have hL1:LM W1 w0.heap.size S n (cQ E p q) v (lsQ E n p q):=h.lm.grown aa (by simp;omega) fun x b hx e e2=>by
  have:=d x b hx e
  cases e2;omega
 have af:RoI W1 (S+1) n F:=h.ro.grown aa (by simp);refine⟨W1,ah,rfl,af,?_⟩;rintro W2 rfl
 have hL2:=hL1.set (a:=⟨S+1,q,none⟩) (.int .i64 (p:Int)) (by simp) fun x hx e=>by
  have:=d x _ hx e;simp only at this;omega
 have ak:=af.set am (p:Int);have aj:=ai.set (a:=⟨S+1,q,none⟩) (by simp) (.int .i64 (p:Int));refine⟨hL2.look ab hn,by have:=aa.size;simpa using this,?_⟩;rintro W3 rfl;have hL3:=hL2.alloc (.cells #[.int .i64 (q:Int)] 3);refine⟨hL3.rows p ab,fun vb wb ho hg s=>?_⟩;have hc:=WD (E:=E) (p:=p) (q:=q);obtain⟨W4,ae,hL4,ad⟩:=hL3.step ab hn (by unfold maxLen;omega) hg ho s;have hS:∀b,(v p).ownBlock=some b->S+1+1<b:=fun b e=>by have:=d p b ab e;omega
 refine⟨W4,ae,⟨?_,hL4.congr (fun x=>?_) ?_,⟨if (f (q:Int)).isSome then c else c+1,PK f (q:Int) (some (.bool true)),?_,?_,fun x hx=>?_⟩,?_,fun x hx hP=>?_⟩,fun w6 hk ag=>⟨?_,fun b e=>?_⟩⟩
 .exact((((h.kp.grown aa fun b e=>by cases e;simp).set (a:=⟨S+1,q,none⟩) _ (by simp)).alloc _).grown hg fun b e=>.inr (d p b ab e)).grown ad fun b e=>by cases e;simp
 .rw[SS hm];rfl
 .rw[Ux (n:=n) hm]
 .exact((aj.alloc _).kept hg fun e=>by have:=hS _ e.symm;omega).kept ad (by simp;omega)
 .split<;>omega
 .by_cases e:x=q
  .subst e;rw[Cn,zE ((H4 hm).2 (.inr rfl))]
  rw[Cg (fun c=>e (by omega)),h3 x hx]
  by_cases e2:PL E p q x
  .rw[zE e2,zE ((H4 hm).2 (.inl e2))]
  rw[zC e2,zC fun c=>((H4 hm).1 c).elim e2 e]
 .exact((ak.alloc _).grown hg fun e=>by have:=hS _ e;omega).grown ad (by simp)
 .by_cases e:x=q
  .subst e;rw[Bg,<-Ey hm,al]
  rw[AS e];exact h.fs x hx (((H4 hm).1 hP).elim id fun c=>absurd c e)
 .exact((((hk.grown aa fun b e=>by cases e;simp).set (a:=⟨S+1,q,none⟩) _ (by simp)).alloc _).grown hg fun b e=>.inr (ag b e)).grown ad fun b e=>by cases e;simp
 rcases s with s|s
 .exact ag b (by rw[<-s,e])
 rw[e]at s;have h1:=hk.size;have h2:=aa.size;simp only[Option.some.injEq,zT,World.size_setCell]at s;omega
end
structure P2(E:List (Nat×Nat))(n:Nat)(w7:World)(S:Nat)(v:Nat->Value)(pre left:List Nat)(vo:Value)(wr:World):Prop where
 st:Stage n E pre left
 kp:Kp [S] w7 wr
 mp:∃f,MapK prog 3 κi wr S left.length f/\∀x:Nat,x<n->f (x:Int)=if x∈left then some (v x) else none
 o:wr.ownsRow w7.heap.size 26 1 vo pre.length (pre.map v)
section
variable {E:List (Nat×Nat)} {n p q S:Nat} {w0 w7 wr w':World} {v:Nat->Value} {F:Nat->Int} {pre left:List Nat} {vo:Value}
theorem P2.start(h:P1 E n w0 S n 0 v F w7)(hE:InN n E):P2 E n w7 S v [] (leasts n E) (.slice none 0 0) w7:=by
 obtain⟨f,h1,h2⟩:=h.lm.map;rw[Gp,VB]at h1;refine⟨Stage.start hE,Kp.refl _ _,⟨f,h1,fun x hx=>?_⟩,zq _ _ _ _⟩;rw[h2 x hx,Er,OX hx]
 by_cases e:x∈leasts n E
 .rw[zE e,zE e,zC (OV hx)]
 rw[zC e,zC e,zE rfl]
theorem P2.pre_nodup(h:P2 E n w7 S v pre left vo wr)(hE:InN n E):pre.Nodup:=by
 have h1:=FR hE;rw[h.st.eq]at h1;exact(List.nodup_append.1 h1).1
theorem P2.len(h:P2 E n w7 S v pre left vo wr)(ty:TypeId):(Builtin.len_ #[106] ty #[.map (some S)]).run prog wr=.ok (.int .i64 (left.length:Int)) wr:=by
 obtain⟨f,h1,_⟩:=h.mp;exact h1.len underlying106 ty
theorem P2.look(h:P2 E n w7 S v pre left vo wr)(hp:p<n)(hn:n<=1000):(Instr.lookup 106 (.map (some S)) (.int .i64 (p:Int)) true).run prog wr=.ok (.tuple #[if p∈left then v p else .slice none 0 0,.bool (bV (p∈left))]) wr:=by
 obtain⟨f,h1,h2⟩:=h.mp;have:=h1.look_ok FO underlying106 (SF wr) (EI underlying3 (a:=(p:Int)) (by omega) (by omega));rw[this,h2 p hp]
 by_cases e:p∈left
 .rw[zE e,zE e,A7 e];rfl
 rw[zC e,zC e,At e];rfl
theorem P2.step(h:P2 E n w7 S v pre left vo wr)(hp:Ez E left=some p)(af:p<n)(hn:n<=1000)(hS:S<w7.heap.size):
 (wr.alloc (.cells #[v p] 26)).ownsRow w7.heap.size 26 1 vo pre.length (pre.map v)/\w7.heap.size<=(wr.alloc (.cells #[v p] 26)).heap.size /\
 ∀ vb wb,wb.ownsRow w7.heap.size 26 1 vb (pre.length+1) (pre.map v++[v p])->(wr.alloc (.cells #[v p] 26)).grownBy wb vo.ownBlock ->
  ∃W4,(Builtin.delete_ #[106,3] 0 #[.map (some S),.int .i64 (p:Int)]).run prog wb=.ok (.tuple #[]) W4/\P2 E n w7 S v (pre++[p]) (left.erase p) vb W4:=by
 have hs:=h.kp.size;obtain⟨aa,_,_⟩:=Cl h.st.ok hp;obtain⟨f,h1,h2⟩:=h.mp;have ad:∀b,vo.ownBlock=some b->w7.heap.size<=b:=fun b e=>(h.o.lt b e).1;refine⟨AK h.o ((zI _ wr).alloc (zB _) _),by simp;omega,fun vb wb ho hg=>?_⟩;have ae:∀b,vo.ownBlock=some b->b≠S:=fun b e c=>by have:=ad b e;omega
 have hM:=(h1.alloc (.cells #[v p] 26)).kept hg fun e=>ae S e.symm rfl;obtain⟨W4,ab,d,s⟩:=hM.del G6 FO underlying106 (EI underlying3 (a:=(p:Int)) (by omega) (by omega)) 0
 have hc:(if (f (p:Int)).isSome then left.length-1 else left.length)=(left.erase p).length:=by
  rw[h2 p af,zE aa,yY aa];rfl
 rw[hc]at d;refine⟨W4,ab,h.st.step hp,?_,⟨_,d,fun x hx=>?_⟩,?_⟩
 .exact((h.kp.alloc _).grown hg fun b e=>.inr (ad b e)).grown s fun b e=>by cases e;simp
 .by_cases e:x=p
  .subst e;rw[Cn,zC fun c=>(h.st.ok.nodup.mem_erase_iff.1 c).1 rfl]
  rw[Cg (fun c=>e (by omega)),h2 x hx]
  by_cases e2:x∈left
  .rw[zE e2,zE ((List.mem_erase_of_ne e).2 e2)]
  rw[zC e2,zC fun c=>e2 ((List.mem_erase_of_ne e).1 c)]
 rw[zY,yf];refine ho.kept s ?_
 cases hu:vb.ownBlock with
 |none=>exact .inl rfl
 |some b=>exact .inr fun e=>(by have:=(ho.lt b hu).1;cases e;omega)
def slA:Value->Option Addr
 |.slice a _ _=>a
 |_=>none
def slC:Value->Nat
 |.slice _ _ c=>c
 |_=>0
noncomputable def B5(E:List (Nat×Nat))(n:Nat)(v:Nat->Value)(pre:List Nat):List (Option Addr×Nat×List Int):=pre.map fun p=>(slA (v p),slC (v p),(CD n E p).map fun(q:Nat)=>(q:Int))
theorem JA:baR (B5 E n v pre)=pre.map fun p=>(CD n E p).map fun(q:Nat)=>(q:Int):=by
 unfold baR B5;rw[xC];rfl
theorem JB{W:World}{base:Nat}{e:TypeId}{u:Value}{l:List Nat}(h:W.ownsRow base e 1 u l.length (Bz l)):u=.slice (slA u) l.length (slC u)/\InInt W (slA u) (l.map fun(q:Nat)=>(q:Int)):=by
 rcases DF h with⟨rfl,rfl⟩|⟨g,cap,rfl,_,h1,_,h2⟩
 .exact⟨rfl,fun h=>absurd h (by simp)⟩
 refine⟨rfl,fun _=>⟨g,0,rfl,h1,fun j hj=>?_⟩⟩;have a:j<l.length:=by simpa using hj
 rw[zm,h2 j a];simp
theorem LA{W:World}{base base2 c:Nat}{A:Option Addr}(hn:n<=1000)(h:W.ownsRow base 26 1 (.slice A pre.length c) pre.length (pre.map v))(hr:∀p,p∈pre->W.ownsRow base2 3 1 (v p) (CD n E p).length (Bz (CD n E p))):Qr W A (B5 E n v pre):=fun h0=>by
 have hl:(B5 E n v pre).length=pre.length:=by simp[B5]
 rw[hl]at h0
 rcases h.2 with⟨_,h1⟩|⟨g,cap,cur,e,hb,hg,_⟩
 .omega
 injection e with e1 _ _;subst e1;refine⟨g,0,rfl,(Array.getElem?_eq_some_iff.1 hg).1,fun j hj=>?_⟩;have a:j<pre.length:=by omega
 have hc:=h.cells (g:=g) (by simp[Value.ownBlock]) j (v pre[j]) (by simp[a]);rw[Addr.add_lit]at hc;have d:=JB (hr pre[j] (zQ a));have he:(B5 E n v pre)[j]=(slA (v pre[j]),slC (v pre[j]),(CD n E pre[j]).map fun(q:Nat)=>(q:Int)):=by simp[B5]
 rw[he];refine⟨?_,d.2,?_⟩
 .rw[hc];simp only[zU];rw[<-d.1]
 simp only[zU];unfold CD;have h:=yD (fun q=>decide (Mut E pre[j] q)) (List.range n);rw[yV]at h;omega
end
end Ci
end
section
open Go.RowKit Go.Shelf
namespace Ci
def QIn(w:World)(B:Nat)(v:Value)(l:List Nat):Prop :=
 (∃A,v=.slice A 0 0/\l=[]/\∀b,v.ownBlock=some b->B<=b/\b<w.heap.size) \/
 ∃g o cap,v=.slice (some ⟨g,o,none⟩) l.length cap/\B<=g/\g<w.heap.size/\l.length<=cap/\(∀j,j<cap->(w.cell? ⟨g,o+j,none⟩).isSome=true)/\(∀j,w.frozen? ⟨g,j,none⟩=false)/\∀j (h:j<l.length),w.cell? ⟨g,o+j,none⟩=some (.int .i64 (l[j]:Int))
section
variable {w w':World} {B:Nat} {v:Value} {l:List Nat} {q:Nat}
theorem QIn.block(h:QIn w B v l){b:Nat}(hb:v.ownBlock=some b):B<=b/\b<w.heap.size:=by
 rcases h with⟨A,rfl,_,h⟩|⟨g,o,cap,rfl,h1,h2,_⟩
 .exact h b hb
 cases hb;exact⟨h1,h2⟩
theorem QIn.grown{row:Option Nat}(h:QIn w B v l)(hg:w.grownBy w' row)(d:v.ownBlock=none\/v.ownBlock≠row):QIn w' B v l:=by
 rcases h with⟨A,rfl,h1,h2⟩|⟨g,o,cap,rfl,h1,h2,h3,h4,h5,h6⟩
 .exact .inl ⟨A,rfl,h1,fun b hb=>⟨(h2 b hb).1,zL (h2 b hb).2 hg.size⟩⟩
 have hb:w'.heap[g]? = w.heap[g]?:=hg.block g h2 fun e=>by
  rcases d with d|d
  .cases d
  exact d e
 refine .inr ⟨g,o,cap,rfl,h1,zL h2 hg.size,h3,fun j hj=>?_,fun j=>?_,fun j hj=>?_⟩
 .rw[zR (a:=⟨g,o+j,none⟩) hb];exact h4 j hj
 .rw[zu (a:=⟨g,j,none⟩) hb];exact h5 j
 rw[zR (a:=⟨g,o+j,none⟩) hb];exact h6 j hj
theorem QIn.set(h:QIn w B v l){a:Addr}(ha:v.ownBlock≠some a.block)(u:Value):QIn (w.setCell a u) B v l :=
 h.grown (row:=some a.block) ⟨rfl,rfl,rfl,by simp,fun k _ hk=>zg _ _ _ _ (fun e=>hk (by rw[e]))⟩ (.inr ha)
theorem QIn.alloc(h:QIn w B v l)(o:Obj):QIn (w.alloc o) B v l :=
 h.grown (row:=none) ⟨rfl,rfl,rfl,by simp,fun k hk _=>wv w o hk⟩ (by cases hq:v.ownBlock<;>simp)
theorem QIn.drew(h:QIn w B v l):QIn w.drew B v l:=h
theorem QIn.head{p:Nat}(h:QIn w B v (p::l)):∃g o cap,v=.slice (some ⟨g,o,none⟩) (l.length+1) cap/\B<=g/\g<w.heap.size/\l.length+1<=cap/\w.cell? ⟨g,o,none⟩=some (.int .i64 (p:Int)) /\
 QIn w B (.slice (some (if cap=1 then ⟨g,o,none⟩ else ⟨g,o+1,none⟩)) l.length (cap-1)) l:=by
 rcases h with⟨A,_,h1,_⟩|⟨g,o,cap,rfl,h1,h2,h3,h4,h5,h6⟩
 .cases h1
 refine⟨g,o,cap,rfl,h1,h2,h3,by have:=h6 0 (by simp);simpa using this,?_⟩;simp only[zn]at h3
 by_cases e:cap=1
 .rw[zE e];have hl:l=[]:=List.length_eq_zero_iff.1 (by omega);subst hl;subst e;exact .inl ⟨_,rfl,rfl,fun b hb=>by cases hb;exact⟨h1,h2⟩⟩
 rw[zC e];refine .inr ⟨g,o+1,cap-1,rfl,h1,h2,by omega,fun j hj=>?_,h5,fun j hj=>?_⟩
 .have:=h4 (j+1) (by omega)
  rwa [show o+1+j=o+(j+1) by omega]
 have:=h6 (j+1) (by simp;omega);rw[show o+1+j=o+(j+1) by omega]
 simpa using this
theorem QIn.of_row{e:TypeId}{u:Value}(h:w.ownsRow B e 1 u l.length (l.map fun(q:Nat)=>.int .i64 (q:Int))):QIn w B u l:=by
 rcases h.2 with⟨rfl,h0⟩|⟨g,cap,cur,rfl,hb,hg,h1,_,h3,_⟩
 .exact .inl ⟨none,rfl,List.length_eq_zero_iff.1 h0,fun b hb=>by cases hb⟩
 have a:∀o,(⟨g,0,none⟩:Addr).add o=⟨g,0+o,none⟩:=fun o=>by unfold Addr.add;split<;>simp_all
 refine .inr ⟨g,0,cap,rfl,hb,(Array.getElem?_eq_some_iff.1 hg).1,h1,fun j hj=>?_,fun j=>by simp[World.frozen?,hg],fun j hj=>?_⟩
 .simp only[World.cell?,hg];have:0+j<cur.size:=by omega
  simp at this;simp[this]
 have hc:=h.cells (g:=g) (by simp[Value.ownBlock]) j (.int .i64 (l[j]:Int)) (by simp[hj])
 rwa [a]at hc
theorem QIn.mono{B':Nat}(h:QIn w B v l)(hb:B'<=B):QIn w B' v l:=by
 rcases h with⟨A,rfl,h1,h2⟩|⟨g,o,cap,rfl,h1,h2⟩
 .exact .inl ⟨A,rfl,h1,fun b e=>⟨zV hb (h2 b e).1,(h2 b e).2⟩⟩
 exact .inr ⟨g,o,cap,rfl,zV hb h1,h2⟩
theorem GG{P:Program}(t ty e:TypeId)(i:TypeInfo)(z:Value)(bytes:Nat)(ht:P.underlying t=some (.slice e))(hi:P.info? e=some i)(hz:i.zero=some z)
 (a:i.size=1)(s:i.bytes=bytes)(ah:z.cells.size=1)(h:QIn w B v l)(hB:B<=w.heap.size)(ad:Addr)(c:Nat)(had:w.cell? ad=some (.int .i64 (q:Int)))
 (hb:(l.length+1)*bytes<=140737488355328)(hm:l.length+1<=maxLen):
 ∃v' w',(Builtin.append_ #[t,t] ty #[v,.slice (some ad) 1 c]).run P w=.ok v' w'/\QIn w' B v' (l++[q])/\w.grownBy w' v.ownBlock/\(v'.ownBlock=v.ownBlock\/v'.ownBlock=some w.heap.size):=by
 have d:∀j u,[(Value.int .i64 (q:Int))][j]? = some u->w.cell? (ad.add j)=some u:=fun j u hj=>by
  match j,hj with
  |0,hj=>simp at hj;subst hj;rw[Addr.add_zero'];exact had
  |j+1,hj=>simp at hj
 have h1:∀u∈[(Value.int .i64 (q:Int))],u.oneCell'=true:=AQ _ rfl;have ai:(l++[q]).map (fun(x:Nat)=>Value.int .i64 (x:Int))=l.map (fun(x:Nat)=>Value.int .i64 (x:Int))++[.int .i64 (q:Int)]:=by simp
 have fin:∀{v':Value} {w':World},w'.ownsRow w.heap.size e 1 v' (l.length+1) (l.map (fun(x:Nat)=>Value.int .i64 (x:Int))++[.int .i64 (q:Int)])->w.grownBy w' none->(v'.ownBlock=none\/v'.ownBlock=some w.heap.size)->QIn w' B v' (l++[q])/\w.grownBy w' v.ownBlock/\(v'.ownBlock=v.ownBlock\/v'.ownBlock=some w.heap.size):=fun {v' w'} ho hg hn=>by
  refine⟨(QIn.of_row (e:=e) (by rw[ai,zY];exact ho)).mono hB,⟨hg.os,hg.tape,hg.output,hg.size,fun k hk _=>hg.block k hk (by simp)⟩,?_⟩
  rcases hn with hn|hn
  .rcases ho.2 with⟨_,h0⟩|⟨g,cap,cur,rfl,_⟩
   .omega
   cases hn
  exact .inr hn
 rcases h with⟨A,rfl,rfl,hA⟩|⟨g,o,cap,rfl,aj,ak,h3,h4,h5,h6⟩
 .cases A with
  |none=>
   obtain⟨v',w',hr,h2,h3,_⟩:=wn (P:=P) w B t ty e i z 1 bytes ht hi hz a s ah (by decide) (.slice none 0 0) 0 [] (zq _ _ _ _) ad 1 c [.int .i64 (q:Int)] (by simp) d h1 (by simpa using hm) (by simpa using hb) hB;have h5:=BZ (P:=P) t ty e i z 1 bytes ht hi hz a s (.slice none 0 0) 0 [] (zq w B _ _) ad 1 c [.int .i64 (q:Int)] (by simp) d h1 (by decide) (by simpa using hm) (by simpa using hb) hr;refine⟨v',w',hr,QIn.of_row (e:=e) (by simpa using h2),h3,h5⟩
  |some b=>
   obtain⟨b1,b2⟩:=hA b.block rfl;obtain⟨v',w',hr,r1,r2⟩:=run_append_arg_grows (P:=P) w t ty e i z 1 bytes ht hi hz a s ah (by decide) b 0 0 [] rfl (fun j u hj=>by simp at hj) ad 1 c [.int .i64 (q:Int)] (by simp) d (by decide) (by simpa using hm) (by simpa using hb);refine⟨v',w',hr,fin (by simpa using r1) r2 ?_⟩
   rcases r1.2 with⟨_,h0⟩|⟨g,cap,cur,rfl,am,al,_⟩
   .cases h0
   have ag:=run_append_grow (P:=P) w t ty e i z ht hi hz b 0 0 [] (by simp) (fun j u hj=>by simp at hj) ad 1 c [.int .i64 (q:Int)] (by rw[a];simp) d (by decide) (by decide) (growslice_fits (by decide) (by rw[s];simpa using hb));rw[ag]at hr;simp only[Result.ok.injEq]at hr;rw[<-hr.1];exact .inr rfl
 by_cases hroom:l.length+1<=cap
 .have hr:=run_append_room_cells (P:=P) w t ty e i ht hi g o l.length cap ad 1 c [.int .i64 (q:Int)] (by rw[a];simp) d h1 hroom
   (fun j hj=>by simp only[xz]at hj;rw[a];have:=h4 (l.length+j) (by omega);rwa [show o+l.length*1+j=o+(l.length+j) by omega]) (fun j _=>h5 _)
  rw[a]at hr
  have ae:∀j,j<cap->j≠l.length->(w.setCell ⟨g,o+l.length*1,none⟩ (.int .i64 (q:Int))).cell? ⟨g,o+j,none⟩=w.cell? ⟨g,o+j,none⟩:=fun j _ an=>
   zZ _ _ _ _ (fun e=>by injection e with _ e2;omega)
  have aa:(w.setCell ⟨g,o+l.length*1,none⟩ (.int .i64 (q:Int))).cell? ⟨g,o+l.length,none⟩=some (.int .i64 (q:Int)):=by
   have h7:=h4 l.length (by omega);obtain⟨u,hu⟩:=Option.isSome_iff_exists.1 h7;rw[Nat.mul_one];exact zr _ _ _ hu
  refine⟨_,_,hr,.inr ⟨g,o,cap,by simp,aj,by simpa [World.setCells] using ak,by simpa using hroom,fun j hj=>?_,fun j=>?_,fun j hj=>?_⟩,?_,.inl rfl⟩
  .by_cases e:j=l.length
   .subst e
    show ((w.setCell _ _).cell? _).isSome=true
    rw[aa];rfl
   show ((w.setCell _ _).cell? _).isSome=true
   rw[ae j hj e];exact h4 j hj
  .show (w.setCell _ _).frozen? _=false
   rw[World.frozen?_setCell];exact h5 j
  .by_cases e:j=l.length
   .subst e
    show (w.setCell _ _).cell? _=_
    rw[aa];simp
   have af:j<l.length:=by simp at hj;omega
   show (w.setCell _ _).cell? _=_
   rw[ae j (by omega) e,h6 j af];simp[af]
  exact⟨rfl,rfl,rfl,by simp[World.setCells],fun k _ hk=>zg _ _ _ _ (fun e=>hk (by rw[e];rfl))⟩
 have ab:∀j u,(l.map fun(x:Nat)=>Value.int .i64 (x:Int))[j]? = some u->w.cell? ((⟨g,o,none⟩:Addr).add j)=some u:=fun j u hj=>by
  obtain⟨af,e⟩:=List.getElem?_eq_some_iff.1 hj;rw[Addr.add_lit,h6 j (by simpa using af),<-e];simp
 obtain⟨v',w',hr,r1,r2⟩:=run_append_arg_grows (P:=P) w t ty e i z 1 bytes ht hi hz a s ah (by decide) ⟨g,o,none⟩ l.length cap (l.map fun(x:Nat)=>Value.int .i64 (x:Int)) (by simp) ab ad 1 c [.int .i64 (q:Int)] (by simp) d (by omega) hm hb;refine⟨v',w',hr,fin r1 r2 ?_⟩;have ag:=run_append_grow (P:=P) w t ty e i z ht hi hz ⟨g,o,none⟩ l.length cap (l.map fun(x:Nat)=>Value.int .i64 (x:Int)) (by rw[a];simp) ab ad 1 c [.int .i64 (q:Int)] (by rw[a];simp) d (by omega) (by simp only[maxLen]at hm;omega) (growslice_fits (by omega) (by rw[s];exact hb));rw[ag]at hr;simp only[Result.ok.injEq]at hr;rw[<-hr.1];exact .inr rfl
end
theorem QIn.form{w:World}{B:Nat}{v:Value}{l:List Nat}(h:QIn w B v l):∃A c,v=.slice A l.length c:=by
 rcases h with⟨A,rfl,rfl,_⟩|⟨g,o,cap,rfl,_⟩
 .exact⟨A,0,rfl⟩
 exact⟨_,_,rfl⟩
theorem F7{P:Program}(w:World){ops:Array Oper}{rest:List Oper}{o:Oper}{a:Act}{Q:Exit->Act->World->Prop}(ae:o.guard=none)(s x:Operand)(t:TypeId)
 (ho:o.op=.call { callee:=.builtin .append,args:=#[s,x],argTypes:=#[t,t] })
 (B:Nat)(e:TypeId)(i:TypeInfo)(z:Value)(bytes:Nat)(ht:P.underlying t=some (.slice e))(hi:P.info? e=some i)(hz:i.zero=some z)
 (d:i.size=1)(ab:i.bytes=bytes)(af:z.cells.size=1)
 (v:Value)(l:List Nat)(q:Nat)(hs:a.eval s=v)(h:QIn w B v l)(hB:B<=w.heap.size)(ad:Addr)(c:Nat)(hx:a.eval x=.slice (some ad) 1 c)(had:w.cell? ad=some (.int .i64 (q:Int)))
 (hb:(l.length+1)*bytes<=140737488355328)(hm:l.length+1<=maxLen)
 (hK:∀v' w',QIn w' B v' (l++[q])->w.grownBy w' v.ownBlock->(v'.ownBlock=v.ownBlock\/v'.ownBlock=some w.heap.size)->wpList P ops Q rest (a.put o.dst v') w'):wpList P ops Q (o::rest) a w :=
 wpList_plain ae fun _ aa=>by
  obtain⟨v',w',hr,h2,h3,h4⟩:=GG (P:=P) t o.type e i z bytes ht hi hz d ab af h hB ad c had hb hm;unfold Oper.wp execOp;simp only[ho,resolve,invoke,builtin,Sem.run_bind,vT,wc,vF,wW,vX,hs,hx,hr];exact aa _ _ (hK v' w' h2 h3 h4)
end Ci
end
section
open Go.RowKit Go.Shelf
namespace Ci
open Nt
def Ck(n m:Nat):List Value:=List.replicate m (.int .i64 (-1))++List.replicate (n-m) (.int .i64 0)
theorem NA(n:Nat):Ck n 0=List.replicate n (.int .i64 0):=by simp[Ck]
theorem Qs(n:Nat):Ck n n=List.replicate n (.int .i64 (-1)):=by simp[Ck]
theorem JC{n m:Nat}(h:m<=n):(Ck n m).length=n:=by simp[Ck];omega
theorem SV{n m j:Nat}(h:j<m):(Ck n m)[j]? = some (.int .i64 (-1)):=by
 unfold Ck;rw[List.getElem?_append_left (by simpa using h),vR,zE h]
theorem Gq{n m c:Nat}(h:m+c<=n):splice (Ck n m) m (List.replicate c (.int .i64 (-1)))=Ck n (m+c):=by
 unfold splice Ck;rw[List.take_left' (by simp),yw,List.drop_append,List.drop_eq_nil_of_le (by simp),yW,yw,List.drop_replicate,<-xS,List.replicate_append_replicate,show n-m-(m+c-m)=n-(m+c) by omega]
theorem NB(n:Nat):madeCells #[(.int .i64 0:Value)] n=(Ck n 0).toArray:=by
 rw[NA];unfold madeCells;apply Array.ext
 .simp
 intro i h1 h2;simp;rw[xW];rfl
theorem FV:(prog.info? 3).map (fun i=>(i.zero,i.size,i.bytes))=some (some (.int .i64 0),1,8):=by kernel_rfl
theorem SW:(prog.info? 3).map (·.size)=some 1:=by kernel_rfl
theorem NC(n b:Nat)(w:World)(hn:n<=1000)(hb:w.cell? ⟨b,0,none⟩=some (.int .i64 (-1)))(an:b<w.heap.size):
 Calls prog 60 #[.slice (some ⟨b,0,none⟩) 1 1,.int .i64 (n:Int)] w fun e w'=>(e=.returned (.slice (some ⟨w.heap.size,0,none⟩) n n)/\w'.heap[w.heap.size]? = some (.cells (List.replicate n (.int .i64 (-1))).toArray 3 (0,0)))/\Below w.heap.size w w':=by
 have kb:Hid (∀W,Calls prog 109 #[.int .u64 1,.int .u64 (n:Int)] W fun e w'=>e=.returned (.tuple #[.int .u64 0,.int .u64 (n:Int)])/\w'=W):=fun W=>by
  have h:=Tryz.bits_Mul 1 n (by decide) (by omega) W;have h1:(1*n/18446744073709551616:Nat)=0:=by omega
  have h2:(1*n%18446744073709551616:Nat)=n:=by omega
  rw[h1,h2]at h;exact h
 have aq:=xG (P:=prog) 26 3 (.int .i64 0) 8 underlying26 FV rfl .i64 .i64 n (by omega) (by omega)
 have ak:Hid ((w.alloc (.cells (madeCells #[(.int .i64 0:Value)] n) 3)).heap[w.heap.size]? = some (.cells (Ck n 0).toArray 3 (0,0))):=by
  have h:=zo w (.cells (madeCells #[(.int .i64 0:Value)] n) 3);unfold Hid;rw[h,NB]
 have ag:Hid (Below w.heap.size w (w.alloc (.cells (madeCells #[(.int .i64 0:Value)] n) 3))):=(zI _ w).alloc (zB _) _;have aj:Hid ((w.alloc (.cells (madeCells #[(.int .i64 0:Value)] n) 3)).cell? ⟨b,0,none⟩=some (.int .i64 (-1))):=(ag.o.cell (p:=⟨b,0,none⟩) an).trans hb;have a:Hid ((List.replicate (min 1 n) (Value.int .i64 (-1))).length=min 1 n):=yw;have ae:Hid (∀c,∀v∈List.replicate c (Value.int .i64 (-1)),v.oneCell'=true):=fun c v hv=>by rw[(List.mem_replicate.1 hv).2];rfl
 have s:Hid (0+(List.replicate (min 1 n) (Value.int .i64 (-1))).length<=(Ck n 0).length):=by
  unfold Hid;rw[JC (zO _),yw];omega
 have d:Hid (∀j v,(List.replicate (min 1 n) (Value.int .i64 (-1)))[j]? = some v->(w.alloc (.cells (madeCells #[(.int .i64 0:Value)] n) 3)).cell? (Addr.add ⟨b,0,none⟩ j)=some v):=fun j v hj=>by
  rw[vR]at hj
  split at hj
  .have h0:j=0:=by omega
   subst h0;rw[Addr.add_zero',<-Option.some.inj hj];exact aj.o
  cases hj
 have aa:Hid (goInt (List.replicate (min 1 n) (Value.int .i64 (-1))).length=.int .i64 ((min 1 n:Nat):Int)):=by
  unfold Hid goInt;rw[yw]
 have af:Hid (splice (Ck n 0) 0 (List.replicate (min 1 n) (Value.int .i64 (-1)))=Ck n (min 1 n)):=by
  have:=Gq (n:=n) (m:=0) (c:=min 1 n) (by omega)
  rwa [zm]at this
 clear hb;go_enter func60,ntmps60
 go_wp2_with fail
 refine(kb.o _).mono ?_;rintro e w2 ⟨rfl,rfl⟩
 go_wp2_with (refine wpList_copy_splice rfl _ _ _ _ rfl 3 underlying26 SW _ _ _ _ _ _ rfl rfl w2.heap.size 0 (Ck n 0) 3 ak.o (List.replicate (min 1 n) (.int .i64 (-1))) a.o (fun _=>⟨rfl,_,rfl,d.o⟩) s.o (ae.o _) w2.heap.size w2 ag.o (zB _) ?_;intro w3 ai ab;rw[af.o]at ai;rw[aa.o];replace ab:=zh ab)
 clear aq ak ag aj a s d aa af
 go_loopw [8] (fun m wr=>∃k:Nat,m=.int .i64 (k:Int)/\k<=n/\(0<n->0<k)/\Hid (wr.heap[w2.heap.size]? = some (.cells (Ck n k).toArray 3 (0,0)))/\Hid (Below w2.heap.size w2 wr)) (fun m _=>n-(intOf m).toNat)
 case atStart=>exact⟨min 1 n,rfl,by omega,by omega,ai,ab⟩
 case round=>
  obtain⟨k,rfl,hk,ao,hg,hB⟩:=hrel;clear ai ab
  by_cases hlt:k<n
  .have av:n≠k:=by omega
   have au:0<k:=ao (by omega);have a:Hid ((List.replicate (min k (n-k)) (Value.int .i64 (-1))).length=min k (n-k)):=yw
   have ad:Hid (k+(List.replicate (min k (n-k)) (Value.int .i64 (-1))).length<=(Ck n k).length):=by
    unfold Hid;rw[JC (by omega),yw];omega
   have d:Hid (∀j v,(List.replicate (min k (n-k)) (Value.int .i64 (-1)))[j]? = some v->wr.cell? (Addr.add ⟨w2.heap.size,0,none⟩ j)=some v):=fun j v hj=>by
    rw[vR]at hj
    split at hj
    .rename_i hj2;rw[Addr.add_lit,<-Option.some.inj hj,zm];have h1:(Ck n k)[j]? = some (.int .i64 (-1)):=SV (by omega);have h2:=hg.o;simp[World.cell?,h2,h1]
    cases hj
   have aa:Hid (goInt (List.replicate (min k (n-k)) (Value.int .i64 (-1))).length=.int .i64 ((min k (n-k):Nat):Int)):=by
    unfold Hid goInt;rw[yw]
   have am:Hid (splice (Ck n k) k (List.replicate (min k (n-k)) (Value.int .i64 (-1)))=Ck n (k+min k (n-k))):=Gq (by omega);go_wp2
   go_region_law (refine step_copy_splice rfl (.tmp 41) (.tmp 44) 26 26 rfl 3 underlying26 SW (some ⟨w2.heap.size,k,none⟩) (some ⟨w2.heap.size,0,none⟩) (n-k) (n-k) k n (by simp[Act.eval,Act.put]) (by simp[Act.eval,Act.put]) w2.heap.size k (Ck n k) 3 hg.o (List.replicate (min k (n-k)) (.int .i64 (-1))) a.o (fun _=>⟨rfl,_,rfl,d.o⟩) ad.o (ae.o _) w2.heap.size w2 hB.o.drew (zB _) ?_;intro w4 al ah;rw[am.o]at al;rw[aa.o];replace ah:=zh ah)
   clear a ad d aa am hg hB
   have ar:IntKind.i64.wrap ((k:Int)+((min k (n-k):Nat):Int))=((k+min k (n-k):Nat):Int):=by
    rw[IntKind.wrap_i64];omega
   simp only[ar];dsimp only[Act.put,List.getElem_toArray,List.getElem_cons_succ,List.getElem_cons_zero];simp only[zA,zF,zG];go_wp2
   go_roundw
   case rel=>exact⟨k+min k (n-k),by go_num,by omega,by omega,al,ah⟩
   case measure=>simp only[intOf];omega
  obtain rfl:k=n:=by omega
  have hG:Hid (wr.heap[w2.heap.size]? = some (.cells (List.replicate k (.int .i64 (-1))).toArray 3 (0,0))):=by
   have h:=hg.o
   rwa [Qs]at h
  go_wp2;go_ret;exact⟨⟨rfl,hG.o⟩,hB.o⟩
def BX(n:Int)(l:List Int)(k:Nat)(h:k<l.length):Prop:=(0<=l[k]/\l[k]<n)/\(0<k->l[k-1]'(by omega)<l[k])
instance (n:Int) (l:List Int) (k:Nat) (h:k<l.length):Decidable (BX n l k h):=inferInstanceAs (Decidable (_/\_))
def Be(n:Int)(l:List Int):Bool:=decide (∀k (h:k<l.length),BX n l k h)
theorem Gs{n:Int}{l:List Int}{k:Nat}(h:k<l.length)(hb:¬BX n l k h):Be n l=false:=zD fun hc=>hb (hc k h)
theorem Gt{n:Int}{l:List Int}(h:∀k (h:k<l.length),BX n l k h):Be n l=true:=zH h
theorem SX(A:Option Addr)(ca:Nat)(n:Int)(l:List Int)(w:World)(hA:InInt w A l)(hl:l.length<=140737488355328):
 Calls prog 98 #[.int .i64 n,.slice A l.length ca] w fun e w'=>e=.returned (.bool (Be n l))/\∃q,w'=w.drewN q:=by
 have af:=zh (fun(k:Nat) (h:k<l.length) (hb:¬BX n l k h)=>Gs h hb);have ae:=zh (Gt (n:=n) (l:=l));replace hA:=zh hA;go_enter func98,ntmps98;go_wp2
 go_loopw [5] (fun i wr=>∃k q:Nat,k<=l.length/\i=.int .i64 (k:Int)/\wr=w.drewN q/\Hid (∀j (h:j<l.length),j<k->BX n l j h)) (fun i _=>l.length-(intOf i).toNat)
 case atStart=>exact⟨0,0,zO _,rfl,rfl,fun j _ h=>absurd h (zi _)⟩
 case round=>
  obtain⟨k,q,hk,rfl,rfl,hI⟩:=hrel
  by_cases hlt:k<l.length
  .obtain ⟨b1,o1,rfl,ah,ab⟩:=hA.o (by omega);have e1:(w.drewN q).cell? ⟨b1,o1+k,none⟩=some (.int .i64 l[k]):=ab k hlt;have e0:Hid (0<k->(w.drewN q).cell? ⟨b1,o1+(k-1),none⟩=some (.int .i64 (l[k-1]'(by omega)))):=fun h=>ab (k-1) (by omega);have aa:=zh (af.o k hlt)
   have ad:Hid (BX n l k hlt->∀j (h:j<l.length),j<k+1->BX n l j h):=fun h j h1 h3=>by
    by_cases e:j=k
    .subst e;exact h
    exact hI.o j h1 (by omega)
   have d:Hid (BX n l k hlt<->(0<=l[k]/\l[k]<n)/\(0<k->l[k-1]'(by omega)<l[k])):=wY;obtain⟨x,hx⟩:∃x,x=l[k]:=⟨_,rfl⟩;rw[<-hx]at e1 d;have j0:(0:Int)<=(k:Int):=by omega
   have j1:(k:Int)<(l.length:Int):=by omega
   clear ab hI hx;generalize a:w.drewN q=wq at *;replace a:=zh a;have ag:x<0\/(0<=x/\n<=x)\/(0<=x/\x<n):=by omega
   rcases ag with h1|⟨h1,h2⟩|⟨h1,h2⟩
   .have hG:=zh (aa.o fun h=>by have:=(d.o.1 h).1.1;omega);have m1:decide (x<0)=true:=zH h1
    go_wp2_with fail
    go_quiet (fail)
    go_wp2;go_ret;exact⟨Ag hG.o.symm,q+nq,by rw[<-a.o,yr]⟩
   .have hG:=zh (aa.o fun h=>by have:=(d.o.1 h).1.2;omega);have m1:decide (x<0)=false:=zD (by omega);have m2:decide (n<=x)=true:=zH h2
    go_wp2_with fail
    go_quiet (fail)
    go_wp2;go_ret;exact⟨Ag hG.o.symm,q+nq,by rw[<-a.o,yr]⟩
   have m1:decide (x<0)=false:=zD (by omega);have m2:decide (n<=x)=false:=zD (by omega)
   by_cases hk0:k=0
   .have m3:decide (0<(k:Int))=false:=zD (by omega);have m4:decide (0<k)=false:=zD (by omega);have s:=zh (ad.o (d.o.2 ⟨⟨h1,h2⟩,fun h=>by omega⟩));replace hk0:=zh hk0
    go_wp2_with fail
    go_quiet (fail)
    go_wp2;refine⟨⟨k+1,q+nq,by omega,by go_num,by rw[<-a.o,yr],s⟩,by simp only[intOf];omega⟩
   have m3:decide (0<(k:Int))=true:=zH (by omega);have m4:decide (0<k)=true:=zH (by omega);have e2:=e0.o (by omega);obtain⟨y,hy⟩:∃y,y=l[k-1]'(by omega):=⟨_,rfl⟩;rw[<-hy]at e2;have j2:(0:Int)<=(k:Int)-1:=by omega
   have j3:(k:Int)-1<(l.length:Int):=by omega
   have j4:IntKind.i64.wrap ((k:Int)-1)=(k:Int)-1:=yi _ (by omega);have j5:((k:Int)-1).toNat=k-1:=by omega
   by_cases hxy:y<x
   .have m5:decide (x<=y)=false:=zD (by omega);have s:=zh (ad.o (d.o.2 ⟨⟨h1,h2⟩,fun _=>by rw[<-hy];exact hxy⟩));replace hy:=zh hy
    go_wp2_with fail
    go_quiet (fail)
    clear j4 j5;go_wp2;refine⟨⟨k+1,q+nq,by omega,by go_num,by rw[<-a.o,yr],s⟩,by simp only[intOf];omega⟩
   have m5:decide (x<=y)=true:=zH (by omega);have hG:=zh (aa.o fun h=>by have h3:=(d.o.1 h).2 (by omega);rw[<-hy]at h3;omega);replace hy:=zh hy
   go_wp2_with fail
   go_quiet (fail)
   clear j4 j5;go_wp2;go_ret;exact⟨Ag hG.o.symm,q+nq,by rw[<-a.o,yr]⟩
  obtain rfl:k=l.length:=by omega
  have hG:=zh (ae.o fun j h=>hI.o j h h);generalize a:w.drewN q=wq at *;replace a:=zh a;go_wp2;go_ret;exact⟨Ag hG.o.symm,q,a.o.symm⟩
def toN(F:List Int):List Nat:=F.map Int.toNat
def ND(s:SR)(F:List Int)(w:World)(e:Ending)(w':World):Prop :=
 (if Am s=true/\Be s.ps.length F=true then ∃b,e=.returned (.tuple #[.slice (some ⟨b,0,none⟩) s.ps.length s.ps.length,.int .i64 0])/\w.heap.size<=b/\RoI w' b s.ps.length (rk (Ad s) (toN F))
   else e=.returned (.tuple #[.slice none 0 0,.int .i64 1]))/\Below w.heap.size w w'
theorem DH{n:Int}{l:List Int}(h:Be n l=true){k:Nat}(hk:k<l.length):BX n l k hk:=zf h k hk
theorem NE{n:Int}{F:List Int}(h:Be n F=true){k:Nat}(hk:k<F.length):∃p:Nat,F[k]=(p:Int)/\(p:Int)<n/\(toN F)[k]? = some p:=by
 have h1:=(DH h hk).1;refine⟨F[k].toNat,by omega,by omega,by simp[toN,hk]⟩
theorem NF{n:Nat}{F:List Int}(h:Be n F=true){p:Nat}(hp:p∈toN F):p<n:=by
 obtain⟨x,hx,rfl⟩:=List.mem_map.1 hp;obtain⟨k,hk,rfl⟩:=zl hx;have:=(DH h hk).1;omega
theorem NG{n:Nat}{F:List Int}(h:Be n F=true):(toN F).Pairwise (·<·):=by
 have hs:∀(i j:Nat)(hi:i<F.length)(hj:j<F.length),i<j->F[i]<F[j]:=by
  intro i j hi hj a
  induction j with
  |zero=>omega
  |succ j ih=>
   have h1:=(DH h hj).2 (by omega);simp only[wR]at h1
   by_cases e:i=j
   .subst e;exact h1
   have:=ih (by omega) (by omega);omega
 unfold toN;rw[List.pairwise_map];refine List.pairwise_iff_getElem.2 fun i j hi hj a=>?_;have:=hs i j hi hj a;have:=(DH h hi).1;have:=(DH h hj).1;omega
theorem JD{n:Nat}{F:List Int}(h:Be n F=true):(toN F).Nodup:=(NG h).imp fun h=>yb h
theorem SY{W:World}{base:Nat}{e:TypeId}{u:Value}{l:List Nat}(h:W.ownsRow base e 1 u l.length (Bz l)):
 ∃A cap,u=.slice A l.length cap/\∀j (hj:j<l.length),∃g,A=some ⟨g,0,none⟩/\g<W.heap.size/\W.cell? ⟨g,j,none⟩=some (.int .i64 (l[j]:Int)):=by
 rcases DF h with⟨rfl,rfl⟩|⟨g,cap,rfl,_,h1,_,h2⟩
 .exact⟨none,0,rfl,fun j hj=>absurd hj (zi _)⟩
 exact⟨_,cap,rfl,fun j hj=>⟨g,rfl,h1,h2 j hj⟩⟩
theorem Qt(A:Option Addr)(c:Nat)(F:List Int)(w:World)(hF:InInt w A F)(h0:∀x,x∈F->0<=x)(hl:F.length<=1000):
 Calls prog 62 #[.slice A F.length c] w fun e w'=>(∃v,e=.returned v/\QIn w' w.heap.size v (toN F))/\Below w.heap.size w w':=by
 by_cases h:0<F.length
 .obtain ⟨b,o,rfl,hb,hc⟩:=hF h
  have hz:∀j,j<F.length->w.cell? ⟨b,o+j,none⟩=some (.int .i64 (F.getD j 0)):=fun j hj=>by
   rw[hc j hj];simp[hj]
  refine(Tryz.slices_Clone_int b o F.length c F w (zB _) (by omega) hz).mono ?_;rintro e w' ⟨v,rfl,ho,_,d⟩;refine⟨⟨v,rfl,QIn.of_row (e:=3) ?_⟩,d⟩;have e1:(toN F).length=F.length:=by simp[toN]
  have e2:((toN F).map fun(q:Nat)=>Value.int .i64 (q:Int))=F.map (Value.int .i64):=by
   unfold toN;rw[xC];refine yX fun x hx=>?_;have:=h0 x hx;simp only[Function.comp_apply]
   congr 1
   omega
  rw[e1,e2]
  simpa using ho
 have h1:F=[]:=List.length_eq_zero_iff.1 (by omega);subst h1
 cases A with
 |none=>
  refine(Tryz.slices_Clone_int_nil 0 c w).mono ?_;rintro e w' ⟨rfl,rfl⟩;exact⟨⟨_,rfl,.inl ⟨none,rfl,rfl,fun b hb=>by cases hb⟩⟩,zI _ _⟩
 |some a=>
  refine(Tryz.slices_Clone_int_zero a c w).mono ?_;rintro e w' ⟨v,rfl,ho,_,hb⟩;exact⟨⟨v,rfl,QIn.of_row (e:=3) (by simpa [toN] using ho)⟩,hb⟩
theorem Ln(w:World)(v:Value)(t:TypeId):(w.alloc (.cells #[v] t)).cell? ⟨w.heap.size,0,none⟩=some v:=by
 have:=BA w v t 0 v rfl
 rwa [Addr.add_zero']at this
theorem U0{n p:Nat}{o:Nat->Int}(hp:p<n)(h:0<=o p):FG n o+1<=n:=by
 have h1:=Fo (f:=fun x=>decide (o x<0)) (g:=fun _=>true) (l:=List.range n) (fun _ _ _=>rfl) ⟨p,List.mem_range.2 hp,zD (by omega),rfl⟩
 have h2:(List.filter (fun _=>true) (List.range n)).length=n:=by
  rw[List.filter_eq_self.2 fun _ _=>rfl,yV]
 rw[h2]at h1;exact h1
theorem U1(n:Nat)(o:Nat->Int):FG n o<=n:=by
 have:=yD (fun x=>decide (o x<0)) (List.range n);rw[yV]at this;exact this
def Bd(n:Nat)(o:Nat->Int):Prop:=∀x,x<n->o x+(FG n o:Int)<n
theorem Bd.start{n:Nat}{F:List Nat}{o:Nat->Int}(h:∀x,o x=if x∈F then 0 else -1):Bd n o:=fun x hx=>by
 by_cases e:x∈F
 .have h1:o x=0:=by rw[h x,zE e]
  have:=U0 hx (by omega:0<=o x);omega
 have h1:o x=-1:=by rw[h x,zC e]
 have:=U1 n o;omega
theorem Bd.set{n p q:Nat}{o:Nat->Int}(h:Bd n o)(hp:p<n)(hq:q<n)(h0:o q<0)(hv:0<=o p):Bd n (E0 o q (o p+1)):=fun x hx=>by
 have h1:=KF hq h0 (v:=o p+1) (by omega);have h2:=h p hp;have h3:=h x hx
 by_cases e:x=q
 .rw[e,Bg];omega
 rw[AS e];omega
def ini(F:List Nat)(k:Nat)(x:Nat):Int:=if x∈F.take k then 0 else -1
theorem LB{F:List Nat}{k p:Nat}(h:F[k]? = some p)(x:Nat):E0 (ini F k) p 0 x=ini F (k+1) x:=by
 unfold E0 ini;obtain⟨hk,rfl⟩:=List.getElem?_eq_some_iff.1 h
 have hm:x∈F.take (k+1)<->x∈F.take k\/x=F[k]:=by
  rw[zS hk,yz,xK]
 by_cases e:x=F[k]
 .rw[zE e,zE (hm.2 (.inr e))]
 rw[zC e]
 by_cases e2:x∈F.take k
 .rw[zE e2,zE (hm.2 (.inl e2))]
 rw[zC e2,zC fun c=>(hm.1 c).elim e2 e]
theorem OY(F:List Nat)(x:Nat):ini F F.length x=if x∈F then 0 else -1:=by unfold ini;rw[yJ]
theorem Qu(s:SR)(Ap Ac Av Af:Option Addr)(cp cc cv cf:Nat)(F:List Int)(w:World)(hE:Env w)(hs:StIn w s Ap Ac Av)(bF:s.cap.length<=300)(hF:InInt w Af F)(bW:F.length<=140737488355328):
 Calls prog 23 #[.agg #[.slice Ap s.ps.length cp,.slice Ac s.cap.length cc,.slice Av s.vot.length cv],.slice Af F.length cf] w (ND s F w):=by
 have bT:=hs.np;have ba:=zh (fun(k:Nat) (h:k<F.length) (hb:¬BX s.ps.length F k h)=>Gs h hb);have a9:=zh (Gt (n:=(s.ps.length:Int)) (l:=F));have af:Hid (Bk (w.alloc (.cells #[.slice Ap s.ps.length cp,.slice Ac s.cap.length cc,.slice Av s.vot.length cv] 25)) w.heap.size 25 (SC s Ap Ac Av cp cc cv)):=Bk.new w _ _;have ad:Hid (Below w.heap.size w (w.alloc (.cells #[.slice Ap s.ps.length cp,.slice Ac s.cap.length cc,.slice Av s.vot.length cv] 25))):=(zI _ w).alloc (zB _) _;have ah:Hid (∀e w',(¬(Am s=true/\Be s.ps.length F=true))->e=.returned (.tuple #[.slice none 0 0,.int .i64 1])->Below w.heap.size w w'->ND s F w e w'):=fun e w' h1 h2 h3=>⟨by rw[zC h1];exact h2,h3⟩;have u0:=af.o.c0;have u9:=af.o.lt;replace hE:=zh hE;replace hs:=zh hs;replace hF:=zh hF;go_enter func23,ntmps23;go_wp2;obtain⟨wa,br⟩:∃x,x=w.alloc (.cells #[.slice Ap s.ps.length cp,.slice Ac s.cap.length cc,.slice Av s.vot.length cv] 25):=⟨_,rfl⟩;rw[<-br]at af ad ⊢;clear u0 u9 br
 go_loop [22] (fun i=>∃k:Nat,k<=F.length/\i=.int .i64 (k:Int)/\Hid (∀j (h:j<F.length),j<k->BX s.ps.length F j h)) (fun i=>F.length-(intOf i).toNat)
 case atStart=>exact⟨0,zO _,rfl,fun j _ h=>absurd h (zi _)⟩
 case round=>
  obtain⟨k,hk,rfl,hI⟩:=hrel
  by_cases hlt:k<F.length
  .obtain ⟨b1,o1,rfl,bD,ag⟩:=(hF.o.below ad.o) (by omega);have e1:=ag k hlt;have e0:Hid (0<k->wa.cell? ⟨b1,o1+(k-1),none⟩=some (.int .i64 (F[k-1]'(by omega)))):=fun h=>ag (k-1) (by omega);have aP:=zh (ba.o k hlt)
   have a6:Hid (BX s.ps.length F k hlt->∀j (h:j<F.length),j<k+1->BX s.ps.length F j h):=fun h j h1 h3=>by
    by_cases e:j=k
    .subst e;exact h
    exact hI.o j h1 (by omega)
   have ao:Hid (BX s.ps.length F k hlt<->(0<=F[k]/\F[k]<s.ps.length)/\(0<k->F[k-1]'(by omega)<F[k])):=wY;obtain⟨x,hx⟩:∃x,x=F[k]:=⟨_,rfl⟩;rw[<-hx]at e1 ao;have j0:(0:Int)<=(k:Int):=by omega
   have j1:(k:Int)<(F.length:Int):=by omega
   clear ag hI hx;have bH:x<0\/(0<=x/\(s.ps.length:Int)<=x)\/(0<=x/\x<s.ps.length):=by omega
   rcases bH with h1|⟨h1,h2⟩|⟨h1,h2⟩
   .have hG:=zh (aP.o fun h=>by have:=(ao.o.1 h).1.1;omega);have m1:decide (x<0)=true:=zH h1;go_wp2;go_ret2;exact ah.o _ _ (fun h=>by rw[hG.o]at h;cases h.2) rfl ad.o
   .have hG:=zh (aP.o fun h=>by have:=(ao.o.1 h).1.2;omega);have m1:decide (x<0)=false:=zD (by omega);have m2:decide ((s.ps.length:Int)<=x)=true:=zH h2;go_wp2;go_ret2;exact ah.o _ _ (fun h=>by rw[hG.o]at h;cases h.2) rfl ad.o
   have m1:decide (x<0)=false:=zD (by omega);have m2:decide ((s.ps.length:Int)<=x)=false:=zD (by omega)
   by_cases hk0:k=0
   .have m3:decide (0<(k:Int))=false:=zD (by omega);have m4:decide (0<k)=false:=zD (by omega);have aN:=zh (a6.o (ao.o.2 ⟨⟨h1,h2⟩,fun h=>by omega⟩));replace hk0:=zh hk0;go_wp2;go_round
    case rel=>exact⟨k+1,by omega,by go_num,aN⟩
    case measure=>simp[intOf];omega
   have m3:decide (0<(k:Int))=true:=zH (by omega);have m4:decide (0<k)=true:=zH (by omega);have e2:=e0.o (by omega);obtain⟨y,hy⟩:∃y,y=F[k-1]'(by omega):=⟨_,rfl⟩;rw[<-hy]at e2;have j2:(0:Int)<=(k:Int)-1:=by omega
   have j3:(k:Int)-1<(F.length:Int):=by omega
   have j4:IntKind.i64.wrap ((k:Int)-1)=(k:Int)-1:=yi _ (by omega);have j5:((k:Int)-1).toNat=k-1:=by omega
   by_cases hxy:y<x
   .have m5:decide (x<=y)=false:=zD (by omega);have aN:=zh (a6.o (ao.o.2 ⟨⟨h1,h2⟩,fun _=>by rw[<-hy];exact hxy⟩));replace hy:=zh hy;go_wp2;go_round
    case rel=>exact⟨k+1,by omega,by go_num,aN⟩
    case measure=>simp[intOf];omega
   have m5:decide (x<=y)=true:=zH (by omega);have hG:=zh (aP.o fun h=>by have h3:=(ao.o.1 h).2 (by omega);rw[<-hy]at h3;omega);replace hy:=zh hy;go_wp2;go_ret2;exact ah.o _ _ (fun h=>by rw[hG.o]at h;cases h.2) rfl ad.o
  obtain rfl:k=F.length:=by omega
  have hL:=zh (a9.o fun j h=>hI.o j h h);clear ba a9 hI;have u0:=af.o.c0;have u1:=af.o.c1;have u2:=af.o.c2;have u9:=af.o.lt;have ks:=G8 s Ap Ac Av cp cc cv wa (hE.o.below ad.o) (hs.o.below ad.o)
  cases d:Am s with
  |false=>
   rw[d]at ks;replace ks:=zh ks;replace d:=zh d
   go_wp2_with fail
   refine ks.o.q fun w2 hb=>?_;have au:=ad.t hb;clear hb;go_wp2;go_ret2;exact ah.o _ _ (fun h=>by rw[d.o]at h;cases h.1) rfl au.o
  |true=>
   rw[d]at ks;replace ks:=zh ks
   have bS:s.ps.length<=60:=by
    unfold Am at d;simp only[yI,yN]at d;exact d.2.1
   have bi:Hid (∀x,x∈s.cap->(0<=x.1/\x.1<s.ps.length)/\(0<=x.2.1/\x.2.1<s.ps.length)):=fun x hx=>by
    unfold Am at d;simp only[yI]at d;obtain⟨i,hi,rfl⟩:=zl hx;exact⟨(Dq d.2.2.1 hi).1.1,(Dq d.2.2.1 hi).1.2.1⟩
   have aI:=zh (ET d);have aL:Hid (∀e w' b,e=.returned (.tuple #[.slice (some ⟨b,0,none⟩) s.ps.length s.ps.length,.int .i64 0])->w.heap.size<=b->RoI w' b s.ps.length (rk (Ad s) (toN F))->Below w.heap.size w w'->ND s F w e w'):=fun e w' b h1 h2 h3 h4=>⟨by rw[zE ⟨d,hL.o⟩];exact⟨b,h1,h2,h3⟩,h4⟩;replace d:=zh d;clear ah
   go_wp2_with fail
   refine ks.o.q fun w2 hb=>?_;have au:=ad.t hb;have bc:=zh (af.o.below hb);clear hb ks u0 u1 u2 u9 ad af;have kr:=zh (NC s.ps.length w2.heap.size (w2.alloc (.cells #[.int .i64 (-1)] 3)) (by omega) (Ln w2 _ _) (by simp));have av:Hid (Below w.heap.size w (w2.alloc (.cells #[.int .i64 (-1)] 3))):=au.o.alloc au.o.size _;have aw:=zh (bc.o.alloc (.cells #[.int .i64 (-1)] 3));obtain⟨b0,aS⟩:∃b,b=(w2.alloc (.cells #[.int .i64 (-1)] 3)).heap.size:=⟨_,rfl⟩;rw[<-aS]at kr;have b2:w.heap.size<b0:=by have:=aw.o.lt;omega
   go_wp2_with fail
   refine kr.o.mono ?_;rintro e w3 ⟨⟨rfl,aj⟩,hb⟩;have a2:=zh (av.o.trans (hb.mono (by have:=av.o.size;omega)));have bd:=zh (aw.o.below (by rw[<-aS];exact hb));have aB:Hid (RoI w3 b0 s.ps.length (ini (toN F) 0)):=(RoI.of_row aj).congr fun x _=>by unfold ini;rw[xj,zC (by simp)]
   clear hb kr aS aj au bc av aw;go_wp2
   go_loopw [56] (fun i wr=>∃(k:Nat)(o:Nat->Int),k<=F.length/\i=.int .i64 (k:Int)/\Hid (Kp [b0] w3 wr)/\Hid (RoI wr b0 s.ps.length o)/\Hid (∀x,o x=ini (toN F) k x)) (fun i _=>F.length-(intOf i).toNat)
   case atStart=>exact⟨0,_,zO _,rfl,Kp.refl _ _,aB,fun _=>rfl⟩
   case round=>
    obtain⟨k,o,hk,rfl,hK,hR,ho⟩:=hrel;clear aB;have an:Hid (Below w.heap.size w wr):=hK.o.to_below a2.o fun x hx=>by rw[List.mem_singleton.1 hx];omega
    by_cases hlt:k<F.length
    .obtain ⟨p,bn,bZ,bo⟩:=NE hL.o hlt;obtain⟨b1,o1,rfl,bD,ag⟩:=(hF.o.below an.o) (by omega);have e1:=ag k hlt;rw[bn]at e1;have aq:p<s.ps.length:=by omega
     have e2:=hR.o.cell p aq;have e3:=hR.o.fr p;have aQ:=zh (hR.o.set aq 0);have aO:=zh (hK.o.set (a:=⟨b0,p,none⟩) (.int .i64 0) (.inl (List.mem_singleton.2 rfl)))
     have bM:Hid (∀x,E0 o p 0 x=ini (toN F) (k+1) x):=fun x=>by
      rw[<-LB bo x];unfold E0;rw[ho.o x]
     have j0:(0:Int)<=(k:Int):=by omega
     have j1:(k:Int)<(F.length:Int):=by omega
     have j2:(0:Int)<=(p:Int):=by omega
     clear ag bn bo;go_wp2;exact⟨⟨k+1,_,by omega,by go_num,aO,aQ,bM⟩,by simp only[intOf];omega⟩
    obtain rfl:k=F.length:=by omega
    have ax:=zh (bd.o.kp hK.o (by simp;omega))
    have aW:Hid (∀x,o x=if x∈toN F then 0 else -1):=fun x=>by
     rw[ho.o x,<-OY];have:(toN F).length=F.length:=by simp[toN]
     rw[this]
    have u0:=ax.o.c0;have u1:=ax.o.c1;have u2:=ax.o.c2;have u9:=ax.o.lt;have ko:=zh (SD s Ap Ac Av cp cc cv wr (hs.o.below an.o) (by omega) bF bi.o);have a4:=zh (hF.o.below an.o);clear ho hK bd a2 hF
    go_wp2_with fail
    refine ko.o.mono ?_;rintro e w4 ⟨⟨R,v,rfl,hG⟩,hb⟩;have bU:=hb.size;have bt:Hid (Below w.heap.size w w4):=an.o.trans (hb.mono an.o.size);have aR:=zh (hR.o.below hb);have bP:b0<w4.heap.size:=aR.o.lt
    have bv:F.length<=1000:=by
     have h1:=C6 s.ps.length (toN F) (JD hL.o) fun x hx=>NF hL.o hx;have h2:(toN F).length=F.length:=by simp[toN]
     omega
    have a5:=zh (a4.o.below hb)
    have kc:=zh (Qt Af cf F w4 a5.o (fun x hx=>by
     obtain⟨i,hi,rfl⟩:=zl hx;exact(DH hL.o hi).1.1) bv)
    have aK:Hid (b0≠R/\∀i b,i<s.ps.length->(v i).ownBlock=some b->b∉[b0]):=by
     have h1:=hR.o.lt;have h2:=hG.lowR;refine⟨by omega,fun i b hi e hm=>?_⟩;have h3:=((hG.rows i hi).lt b e).1;rw[List.mem_singleton.1 hm]at h3;omega
    have bY:=hG.lt;replace hG:=zh hG;have ae:=zh (Bf.start (E:=Ad s) (JD hL.o) (fun f hf=>NF hL.o hf) fun x _=>aW.o x);have ab:=zh (Bd.start (n:=s.ps.length) aW.o);have ay:Hid (∀p q,q∈CK (Ad s) (Ad s).length p<->(p,q)∈Ad s):=fun _ _=>Lz
    have be:Hid (∀p,(CK (Ad s) (Ad s).length p).length<=300):=fun p=>by
     unfold CK;rw[zU];have h1:=yD (fun x:Nat×Nat=>decide (x.1=p)) ((Ad s).take (Ad s).length);have h2:((Ad s).take (Ad s).length).length<=(Ad s).length:=List.length_take_le' _ _;have h3:(Ad s).length=s.cap.length:=by simp[Ad]
     omega
    obtain⟨adj,az⟩:∃a,a=CK (Ad s) (Ad s).length:=⟨_,rfl⟩;rw[<-az]at hG ay be;have a3:Hid (∀f,f∈toN F->f<s.ps.length):=fun f hf=>NF hL.o hf;obtain⟨i0,aV,bs⟩:=Option.map_eq_some_iff.1 FV;simp only[Prod.mk.injEq]at bs;obtain⟨aZ,a0,a1⟩:=bs;replace aV:=zh aV;replace aZ:=zh aZ;replace a0:=zh a0;replace a1:=zh a1;clear hb ko hR an u0 u1 u2 u9 ax az aW a4 a5 bi
    go_wp2_with fail
    refine kc.o.mono ?_;rintro e w5 ⟨⟨vq,rfl,hQ⟩,hb⟩;have a8:=zh ((Kp.refl [b0] w4).below hb);have bb:=zh (aR.o.below hb);replace hQ:=zh hQ;clear hb kc aR;go_wp2
    go_loopg [13] ((toN F).length+FG s.ps.length o) (fun m u wr=>∃(o:Nat->Int)(queue:List Nat),m=queue.length+FG s.ps.length o/\Hid (QIn wr w4.heap.size u queue)/\Hid (Kp [b0] w4 wr)/\Hid (RoI wr b0 s.ps.length o)/\Hid (Bf s.ps.length (Ad s) (toN F) (fun _=>False) o queue)/\Hid (Bd s.ps.length o))
    case atStart=>exact⟨_,_,rfl,hQ,a8,bb,ae,ab⟩
    case round=>
     clear hQ a8 bb ae ab;obtain⟨o1,queue,hm,hQ,hK,hR,ae,ab⟩:=hrel
     cases queue with
     |nil=>
      obtain⟨A,c,rfl⟩:=hQ.o.form;have bC:Hid (RoI wr b0 s.ps.length (rk (Ad s) (toN F))):=hR.o.congr fun x hx=>ae.o.end a3.o aI.o hx;have bu:Hid (Below w.heap.size w wr):=hK.o.to_below bt.o fun x hx=>by rw[List.mem_singleton.1 hx];omega
      clear hQ hm;go_wp2;go_ret2;exact aL.o _ _ b0 rfl (by omega) bC.o bu.o
     |cons p queue=>
      obtain⟨g,of,cap,rfl,_,_,bQ,bG,_⟩:=hQ.o.head;have aq:=(ae.o.pos p (yG ..)).1;have aM:=hG.o.kp hK.o (by simp;exact fun e=>aK.o.1 e.symm) aK.o.2;have d1:=aM.hd p aq;have bR:=aM.lt;obtain⟨A,cr,aY,aj⟩:=SY (hG.o.rows p aq);rw[aY]at d1;have aa:=zh (Bq.start ae.o);have bj:Hid (queue.length+FG s.ps.length o1<gk):=by rw[hm];simp only[zn];unfold Hid;omega
      have aG:=zh (fun q (h:(p,q)∈Ad s)=>(ay.o p q).2 h);have aJ:=zh (fun q (h:q∈adj p)=>(ay.o p q).1 h);have bO:=be.o p
      have aU:Hid (∀j (hj:j<(adj p).length),∃gg,A=some ⟨gg,0,none⟩/\gg<w4.heap.size/\gg∉[b0]/\w4.cell? ⟨gg,j,none⟩=some (.int .i64 ((adj p)[j]:Int))):=fun j hj=>by
       obtain⟨gg,hA,h1,h2⟩:=aj j hj;exact⟨gg,hA,h1,aK.o.2 p gg aq (by rw[aY,hA];rfl),h2⟩
      have p0:(0:Int)<=(p:Int):=by omega
      have p1:(p:Int)<(s.ps.length:Int):=by omega
      have q0:(0:Int)<(queue.length:Int)+1:=by omega
      clear aM aY aj hm ae;go_wp2
      go_loopw [13,81] (fun u ix wz=>∃(j:Nat)(o2:Nat->Int)(q2:List Nat)(A2:Option Addr)(c2:Nat),j<=(adj p).length/\u=.slice A2 (q2.length+1) c2/\ix=.int .i64 (j:Int)/\Hid (QIn wz w4.heap.size (.slice A2 (q2.length+1) c2) (p::q2))/\Hid (Kp [b0] w4 wz)/\Hid (RoI wz b0 s.ps.length o2)/\Hid (Bq s.ps.length (Ad s) (toN F) p (o1 p) ((adj p).take j) o2 q2)/\Hid (Bd s.ps.length o2)/\Hid (q2.length+FG s.ps.length o2<=queue.length+FG s.ps.length o1)) (fun _ ix _=>(adj p).length-(intOf ix).toNat)
      case atStart=>exact⟨0,o1,queue,_,_,zO _,rfl,rfl,hQ,hK,hR,aa,ab,zB _⟩
      case round=>
       clear hQ hK hR aa ab;obtain⟨j,o2,q2,A2,c2,hj,rfl,rfl,hQ,hK,hR,aa,ab,aC⟩:=hrel
       by_cases hjl:j<(adj p).length
       .obtain ⟨gg,rfl,bI,bJ,bh⟩:=aU.o j hjl;have e1:=(zR (a:=⟨gg,j,none⟩) (hK.o.block gg bI bJ)).trans bh;have aD:=aJ.o _ (zQ hjl);have aF:(adj p).take (j+1)=(adj p).take j++[(adj p)[j]]:=zS hjl;obtain⟨q,bq⟩:∃x,x=(adj p)[j]:=⟨_,rfl⟩;rw[<-bq]at e1 aD aF;have ar:q<s.ps.length:=(aI.o _ aD).2;have e2:=hR.o.cell q ar;have j0:(0:Int)<=(j:Int):=by omega
        have j1:(j:Int)<((adj p).length:Int):=by omega
        have j2:(0:Int)<=(q:Int):=by omega
        have j3:(q:Int)<(s.ps.length:Int):=by omega
        clear bq bh aU
        by_cases hneg:o2 q<0
        .have m1:decide (o2 q<0)=true:=zH hneg;have am:=aa.o.here;have aH:=aa.o.cur;have bN:=aa.o.v0;have e3:=hR.o.cell p am;have e4:=hR.o.fr q;have bg:=ab.o p am;have jw:IntKind.i64.wrap (o2 p+1)=o2 p+1:=yi _ (by omega);have aQ:=zh (hR.o.set ar (o2 p+1));have aO:=zh (hK.o.set (a:=⟨b0,q,none⟩) (.int .i64 (o2 p+1)) (.inl (List.mem_singleton.2 rfl)));have aX:(Value.slice A2 (q2.length+1) c2).ownBlock≠some b0:=fun e=>by have:=(hQ.o.block e).1;omega
         have bz:=zh (hQ.o.set (a:=⟨b0,q,none⟩) aX (.int .i64 (o2 p+1)))
         have ak:Hid (Bq s.ps.length (Ad s) (toN F) p (o1 p) ((adj p).take (j+1)) (E0 o2 q (o2 p+1)) (q2++[q])):=by
          rw[aH,aF];exact aa.o.set ar aD hneg
         have bf:=zh (ab.o.set am ar hneg (by omega));have bL:=KF ar hneg (v:=o2 p+1) (by omega)
         have bm:Hid ((q2++[q]).length+FG s.ps.length (E0 o2 q (o2 p+1))<=queue.length+FG s.ps.length o1):=by
          have h:=aC.o;unfold Hid;rw[zY,xz];omega
         have bA:=zh (bz.o.alloc (.cells #[.int .i64 (q:Int)] 3));have aB:=zh (aQ.o.alloc (.cells #[.int .i64 (q:Int)] 3));have a7:=zh (aO.o.alloc (.cells #[.int .i64 (q:Int)] 3));have aA:w4.heap.size<=((wr.setCell ⟨b0,q,none⟩ (.int .i64 (o2 p+1))).alloc (.cells #[.int .i64 (q:Int)] 3)).heap.size:=a7.o.size
         have al:(p::q2).length+1<=400:=by
          have h1:=C6 s.ps.length (p::q2) (List.nodup_cons.2 ⟨aa.o.off,aa.o.inv.nodup⟩) fun x hx=>by
           rcases List.mem_cons.1 hx with rfl|hx
           .exact am
           exact(aa.o.inv.pos x hx).1
          omega
         replace al:=zh al;replace aA:=zh aA;have bE:Hid (∀b,(Value.slice A2 (q2.length+1) c2).ownBlock=some b->b∈[b0]\/w4.heap.size<=b):=fun b e=>.inr (hQ.o.block e).1;have bp:=zh aX;clear hR hK hQ bg aH bN bL aX hneg
         have had:Hid (((wr.setCell ⟨b0,q,none⟩ (.int .i64 (o2 p+1))).alloc (.cells #[.int .i64 (q:Int)] 3)).cell? ⟨wr.heap.size,0,none⟩=some (.int .i64 (q:Int))):=by
          have h:=Ln (wr.setCell ⟨b0,q,none⟩ (.int .i64 (o2 p+1))) (.int .i64 (q:Int)) 3
          rwa [World.size_setCell]at h
         go_wp2_with (at_builtin;refine F7 _ rfl _ _ 26 rfl w4.heap.size 3 i0 (.int .i64 0) 8 underlying26 aV.o aZ.o a0.o a1.o rfl (.slice A2 (q2.length+1) c2) (p::q2) q rfl bA.o aA.o ⟨wr.heap.size,0,none⟩ 1 rfl had.o (by have:=al.o;omega) (by have:=al.o;unfold maxLen;omega) ?_;intro vb wb aE aT bK;have bx:=zh (a7.o.grown aT bE.o);have bB:=zh (aB.o.grown aT bp.o);obtain⟨A9,c9,rfl⟩:=aE.form;replace aE:=zh aE;clear aT bK)
         exact⟨⟨j+1,_,q2++[q],A9,c9,by omega,by rw[zY,xz],by go_num,by have h:=aE.o;unfold Hid;simpa using h,bx,bB,ak,bf,bm⟩,by simp only[intOf];omega⟩
        have m1:decide (o2 q<0)=false:=zD hneg;have ak:=zh (aa.o.skip ar (by omega));rw[<-aF]at ak;clear aF aD;go_wp2;exact⟨⟨j+1,o2,q2,_,_,by omega,rfl,by go_num,hQ,hK,hR,ak,ab,aC⟩,by simp only[intOf];omega⟩
       obtain rfl:j=(adj p).length:=by omega
       have ae:=zh (aa.o.end fun q hq=>by rw[yJ];exact aG.o q hq);obtain⟨g9,o9,c9,he,_,_,bX,_,ai⟩:=hQ.o.head;injection he with he1 _ he3;subst he1 he3;have bk:q2.length+FG s.ps.length o2<gk:=yM aC.o bj.o;have z1:(1:Int)<=(q2.length:Int)+1:=by omega
       have z2:(q2.length:Int)+1<=(c2:Int):=by omega
       replace ab:=zh ab.o;clear aa hQ aC bj aG aJ aU
       by_cases ag:c2=1
       .subst ag;have h0:q2=[]:=List.length_eq_zero_iff.1 (by omega);subst h0;rw[zE rfl]at ai;replace ai:Hid (QIn wr w4.heap.size (.slice (some ⟨g9,o9,none⟩) 0 0) []):=ai;go_wp2
        go_roundg (FG s.ps.length o2)
        case measure=>simpa using bk
        case rel=>exact⟨o2,[],by simp,ai,hK,hR,ae,ab⟩
       rw[zC ag]at ai;replace ai:=zh ai;go_wp2
       go_roundg (q2.length+FG s.ps.length o2)
       case measure=>exact bk
       case rel=>exact⟨o2,q2,rfl,ai,hK,hR,ae,ab⟩
end Ci
end
section
open Go.RowKit Go.Shelf
namespace Ci
open Nt
open Classical
noncomputable def CL(s:SR):List (List Int):=(Aj s.ps.length (Ad s)).map fun l=>l.map fun(q:Nat)=>(q:Int)
def GH(s:SR)(w:World)(e:Ending)(w':World):Prop :=
 (if Am s=true then ∃A c l,e=.returned (.tuple #[.slice A l.length c,.int .i64 0])/\Qr w' A l/\baR l=CL s
   else e=.returned (.tuple #[.slice none 0 0,.int .i64 1]))/\Below w.heap.size w w'
theorem I4(s:SR)(Ap Ac Av:Option Addr)(cp cc cv:Nat)(w:World)(hE:Env w)(hs:StIn w s Ap Ac Av)(cq:s.cap.length<=300):
 Calls prog 41 #[.agg #[.slice Ap s.ps.length cp,.slice Ac s.cap.length cc,.slice Av s.vot.length cv]] w (GH s w):=by
 have ar:Hid (Bk (w.alloc (.cells #[.slice Ap s.ps.length cp,.slice Ac s.cap.length cc,.slice Av s.vot.length cv] 25)) w.heap.size 25 (SC s Ap Ac Av cp cc cv)):=Bk.new w _ _;have am:Hid (Below w.heap.size w (w.alloc (.cells #[.slice Ap s.ps.length cp,.slice Ac s.cap.length cc,.slice Av s.vot.length cv] 25))):=(zI _ w).alloc (zB _) _;have b4:=@run_makeMap prog;have u0:=ar.o.c0;have u1:=ar.o.c1;have u2:=ar.o.c2;have u9:=ar.o.lt;obtain⟨wa,bF⟩:∃x,x=w.alloc (.cells #[.slice Ap s.ps.length cp,.slice Ac s.cap.length cc,.slice Av s.vot.length cv] 25):=⟨_,rfl⟩;have ks:=G8 s Ap Ac Av cp cc cv (w.alloc (.cells #[.slice Ap s.ps.length cp,.slice Ac s.cap.length cc,.slice Av s.vot.length cv] 25)) (hE.below am.o) (hs.below am.o);have b9:(w.alloc (.cells #[.slice Ap s.ps.length cp,.slice Ac s.cap.length cc,.slice Av s.vot.length cv] 25)).heap.size=w.heap.size+1:=by simp
 rw[<-bF]at ar am u0 u1 u2 u9 ks b9
 cases al:Am s with
 |false=>
  have bK:Hid (∀e w',e=.returned (.tuple #[.slice none 0 0,.int .i64 1])->Below w.heap.size w w'->GH s w e w'):=fun e w' h2 h3=>⟨by rw[zC (by rw[al];simp)];exact h2,h3⟩;rw[al]at ks;replace ks:=zh ks;replace hs:=zh hs;clear b4;subst bF;go_enter func41,ntmps41
  go_wp2_with fail
  refine ks.o.q fun w2 hb=>?_;have aA:=am.t hb;clear hb;go_wp2;go_ret2;exact bK.o _ _ rfl aA.o
 |true=>
  have cH:s.ps.length<=60:=by
   have h:=al;unfold Am at h;simp only[yI,yN]at h;exact h.2.1
  have cr:Hid (∀x,x∈s.cap->(0<=x.1/\x.1<s.ps.length)/\(0<=x.2.1/\x.2.1<s.ps.length)):=fun x hx=>by
   have h:=al;unfold Am at h;simp only[yI]at h;obtain⟨i,hi,rfl⟩:=zl hx;exact⟨(Dq h.2.2.1 hi).1.1,(Dq h.2.2.1 hi).1.2.1⟩
  have aa:=zh (ET al);have bn:Hid (∀e w' A c k l,e=.returned (.tuple #[.slice A k c,.int .i64 0])->k=List.length l->Qr w' A l->baR l=CL s->Below w.heap.size w w'->GH s w e w'):=fun e w' A c k l h1 hk h2 h3 h4=>⟨by rw[zE al];exact⟨A,c,l,by rw[<-hk];exact h1,h2,h3⟩,h4⟩;rw[al]at ks;replace ks:=zh ks;replace hs:=zh hs;replace al:=zh al;have cy:=xG (P:=prog) 26 3 (.int .i64 0) 8 underlying26 FV rfl .i64 .i64 s.ps.length (by omega) (by omega);have bA:=zh (fun w2 h=>SD s Ap Ac Av cp cc cv w2 h (by omega) cq cr.o)
  have br:Hid (∀p,(CK (Ad s) (Ad s).length p).length<=300):=fun p=>by
   unfold CK;rw[zU];have h1:=yD (fun x:Nat×Nat=>decide (x.1=p)) ((Ad s).take (Ad s).length);have h2:((Ad s).take (Ad s).length).length<=(Ad s).length:=List.length_take_le' _ _;have h3:(Ad s).length=s.cap.length:=by simp[Ad]
   omega
  have ai:Hid (∀p q,q∈CK (Ad s) (Ad s).length p<->(p,q)∈Ad s):=fun _ _=>Lz
  have bb:Hid (CL s=(ords s.ps.length (Ad s)).map fun p=>(CD s.ps.length (Ad s) p).map fun(q:Nat)=>(q:Int)):=by
   unfold Hid CL Aj;rw[xC];rfl
  obtain⟨E,bL⟩:∃E,E=Ad s:=⟨_,rfl⟩;obtain⟨adj,aJ⟩:∃a,a=CK (Ad s) (Ad s).length:=⟨_,rfl⟩;rw[<-aJ]at bA br ai;rw[<-bL]at aa ai bb;clear bL aJ;obtain⟨i0,bv,ch⟩:=Option.map_eq_some_iff.1 FV;simp only[Prod.mk.injEq]at ch;obtain⟨aE,bG,ax⟩:=ch;replace bv:=zh bv;replace aE:=zh aE;replace bG:=zh bG;replace ax:=zh ax;subst bF;go_enter func41,ntmps41
  go_wp2_with fail
  refine ks.o.q fun w2 hb=>?_;have aA:=am.t hb;have aI:=zh (ar.o.below hb);have kg:=zh (bA.o w2 (hs.o.below aA.o));clear hb ks am ar u0 u1 u2 u9 bA;have u0:=aI.o.c0;have u1:=aI.o.c1;have u2:=aI.o.c2;have u9:=aI.o.lt
  go_wp2_with fail
  refine kg.o.mono ?_;rintro e w3 ⟨⟨R,vg,rfl,hG⟩,hb⟩;have bi:=aA.t hb;clear hb kg aA aI u0 u1 u2 u9;have kt:=zh (Nx R s.ps.length w2.heap.size vg adj w3 (by omega) (fun p _=>by have:=br.o p;omega) (fun p q _ h=>(aa.o _ ((ai.o p q).1 h)).2) hG);replace hG:=zh hG
  go_wp2_with fail
  refine kt.o.mono ?_;rintro e w4 ⟨⟨R2,vb,T,rfl,aC,hT⟩,hb⟩;have aB:=bi.t hb;have aT:=zh (hG.o.below hb)
  have bR:Hid (∀p q,p<s.ps.length->(q∈T p<->(p,q)∈L8 E)):=fun p q hp=>by
   rw[hT.1 p q hp,Fa,<-ai.o];constructor
   .rintro(⟨_,h⟩|⟨_,h⟩)
    .exact h
    simp at h
   intro h;exact .inl ⟨(aa.o _ ((ai.o q p).1 h)).1,h⟩
  have bQ:Hid (∀p,(T p).length<=60000):=fun p=>by have:=hT.2 p;omega
  replace aC:=zh aC;clear hb kt bi hG hT;have aV:=zh (P1.start E s.ps.length w4 3);have bj:Hid (Below w.heap.size w (((w4.alloc (.map #[] 0)).alloc (.cells (madeCells #[.int .i64 0] s.ps.length) 3)).alloc (.map #[] 0))):=((aB.o.alloc aB.o.size _).alloc (by have:=aB.o.size;simp;omega) _).alloc (by have:=aB.o.size;simp;omega) _;have bk:Hid (Below w4.heap.size w4 (((w4.alloc (.map #[] 0)).alloc (.cells (madeCells #[.int .i64 0] s.ps.length) 3)).alloc (.map #[] 0))):=(((zI _ w4).alloc (zB _) _).alloc (by simp) _).alloc (by simp<;>omega) _;have ad:Hid ((((w4.alloc (.map #[] 0)).alloc (.cells (madeCells #[.int .i64 0] s.ps.length) 3)).alloc (.map #[] 0)).heap.size=w4.heap.size+3):=by unfold Hid;simp
  have ag:Hid (R<w4.heap.size/\R2<w4.heap.size/\(∀i b,i<s.ps.length->(vg i).ownBlock=some b->b<w4.heap.size)/\(∀i b,i<s.ps.length->(vb i).ownBlock=some b->b<w4.heap.size)) :=
   ⟨aT.o.lt,aC.o.lt,fun i b hi e=>((aT.o.rows i hi).lt b e).2,fun i b hi e=>((aC.o.rows i hi).lt b e).2⟩
  have bm:=zh (aT.o.below bk.o);have aU:=zh (aC.o.below bk.o);have cn:w.heap.size<=w4.heap.size:=aB.o.size;go_wp2;obtain⟨w0,cf⟩:∃x,x=(((w4.alloc (.map #[] 0)).alloc (.cells (madeCells #[.int .i64 0] s.ps.length) 3)).alloc (.map #[] 0)):=⟨_,rfl⟩;rw[<-cf]at aV bj ad bm aU ⊢;obtain⟨S,hS⟩:∃x,x=w4.heap.size:=⟨_,rfl⟩;rw[<-hS]at aV ad ag cn ⊢;clear cy b4 bk aT aC cf hS aB
  go_loopw [37] (fun ix wr=>∃(p:Nat)(v:Nat->Value)(F:Nat->Int),p<=s.ps.length/\ix=.int .i64 (p:Int)/\Hid (P1 E s.ps.length w0 S p 0 v F wr)) (fun ix _=>s.ps.length-(intOf ix).toNat)
  case atStart=>exact⟨0,_,_,zO _,rfl,aV⟩
  case round=>
   obtain⟨p,v,F,hp,rfl,hP⟩:=hrel;clear aV
   by_cases hpn:p<s.ps.length
   .have ah:=hP.o.look hpn (by omega);have p0:(0:Int)<=(p:Int):=by omega
    have p1:(p:Int)<(s.ps.length:Int):=by omega
    by_cases hfp:fst E p=p
    .rw [At (fun c=>c hfp)]at ah;have aj:=bm.o.kp hP.o.kp (by have:=ag.o.1;simp;omega) (fun i b hi e=>by have:=ag.o.2.2.1 i b hi e;simp;omega);have k1:=zh (Hd E R s.ps.length _ p vg adj wr (by omega) (fun x q _=>ai.o x q) aa.o (fun x _=>by have:=br.o x;omega) hpn aj);replace hfp:=zh hfp;clear aj
     go_wp2_with fail
     refine k1.o.mono ?_;rintro e w5 ⟨⟨m1,rfl,cw,ay⟩,hb⟩;have aW:=zh (hP.o.below hb);have cF:S+3<=m1:=by have:=hP.o.kp.size;have:=ad.o;omega
     clear hb cw hP k1 ah;have aj:=aU.o.kp aW.o.kp (by have:=ag.o.2.1;simp;omega) (fun i b hi e=>by have:=ag.o.2.2.2 i b hi e;simp;omega);have k2:=zh (Hd (L8 E) R2 s.ps.length _ p vb T w5 (by omega) (fun x q hx=>bR.o x q hx) (Uv aa.o) (fun x _=>by have:=bQ.o x;omega) hpn aj);replace ay:=zh ay;clear aj
     go_wp2_with fail
     refine k2.o.mono ?_;rintro e w6 ⟨⟨m2,rfl,cx,aH⟩,hb⟩;have bp:=zh (aW.o.below hb);have bq:=zh (ay.o.below hb);have cG:S+3<=m2:=by have:=aW.o.kp.size;have:=ad.o;omega
     replace aH:=zh aH;clear hb cx aW ay k2
     have ce:Hid (∀b,(v p).ownBlock=some b->w6.heap.size<=b):=fun b e=>by
      rw[bp.o.lm.nil p hpn (by unfold lsQ;rw[zE rfl,J9])]at e
      cases e
     have bO:Hid (Kp [S,S+1,S+1+1] w6 w6):=Kp.refl _ _;go_wp2
     go_loopw [51] (fun ix wz=>∃(q:Nat)(v2:Nat->Value)(F2:Nat->Int),q<=s.ps.length/\ix=.int .i64 (q:Int)/\Hid (P1 E s.ps.length w0 S p q v2 F2 wz)/\Hid (Kp [S,S+1,S+1+1] w6 wz)/\Hid (∀b,(v2 p).ownBlock=some b->w6.heap.size<=b)) (fun ix _=>s.ps.length-(intOf ix).toNat)
     case atStart=>exact⟨0,v,F,zO _,rfl,bp,bO,ce⟩
     case round=>
      obtain⟨q,v2,F2,hq,rfl,hP,hK,hv⟩:=hrel;clear bp bO ce
      by_cases ak:q<s.ps.length
      .have bx:=(bq.o.kp hK.o (by simp;omega)).look ak (by omega);have bz:=(aH.o.kp hK.o (by simp;omega)).look ak (by omega);have q0:(0:Int)<=(q:Int):=by omega
       have q1:(q:Int)<(s.ps.length:Int):=by omega
       by_cases hr1:Reach E p q
       .rw [A7 hr1]at bx
        by_cases hr2:Reach E q p
        .rw [A7 (J8.2 hr2)]at bz;obtain⟨W1,cA,_,aX,aw⟩:=hP.o.step ad.o ⟨hr1,hr2⟩ hpn ak (by omega) hfp.o;obtain⟨an,cd,bc⟩:=aw _ rfl;obtain⟨d,az⟩:=bc _ rfl;have c1:=aX.cell q ak;have c2:=aX.fr q;have c3:=aX.lt
         have had:Hid (∀j u,[(Value.int .i64 (q:Int))][j]? = some u->((W1.setCell ⟨S+1,q,none⟩ (.int .i64 (p:Int))).alloc (.cells #[.int .i64 (q:Int)] 3)).cell? (Addr.add ⟨W1.heap.size,0,none⟩ j)=some u):=by
          have h:=BA (W1.setCell ⟨S+1,q,none⟩ (.int .i64 (p:Int))) (.int .i64 (q:Int)) 3
          rwa [World.size_setCell]at h
         have b3:Hid ((lsQ E s.ps.length p q p).length<=100):=by
          unfold Hid lsQ;rw[zE rfl];unfold Ah;have h:=yD (fun y=>decide (Mut E p y)) (List.range q);rw[yV]at h;omega
         have co:Hid (w0.heap.size<=((W1.setCell ⟨S+1,q,none⟩ (.int .i64 (p:Int))).alloc (.cells #[.int .i64 (q:Int)] 3)).heap.size):=by
          have h1:=hP.o.kp.size;unfold Hid;rw[zT];omega
         obtain⟨vp,af⟩:∃x,x=v2 p:=⟨_,rfl⟩;rw[<-af]at an d az;rw[<-af]at hv;replace af:=zh af;replace d:=zh d;replace az:=zh az;clear hP aw bc aX hr1 hr2 cd
         go_wp2_with (at_builtin;refine wpList_append_new _ rfl _ _ 26 rfl w0.heap.size 3 i0 (.int .i64 0) 1 8 underlying26 bv.o aE.o bG.o ax.o rfl (by decide) vp _ _ rfl d.o ⟨W1.heap.size,0,none⟩ 1 1 [.int .i64 (q:Int)] rfl rfl had.o (AQ _ rfl) (by decide) (by have:=b3.o;unfold maxLen;omega) (by have:=b3.o;omega) co.o ?_;intro bI bJ aD aM a2;obtain⟨W4,bC,aq,bN⟩:=az.o bI bJ aD aM (by simpa using a2);obtain⟨bo,bD⟩:=bN w6 hK.o hv.o;replace aq:=zh aq;replace bo:=zh bo;replace bD:=zh bD;clear aD aM a2 bN)
         exact⟨⟨q+1,_,_,by omega,by go_num,aq,bo,fun b e=>bD.o b (by simpa using e)⟩,by simp only[intOf];omega⟩
        rw[At (fun c=>hr2 (J8.1 c))]at bz;have ao:=zh (hP.o.skip fun c=>hr2 c.2);clear hP hr1 hr2;go_wp2;exact⟨⟨q+1,v2,F2,by omega,by go_num,ao,hK,hv⟩,by simp only[intOf];omega⟩
       rw[At hr1]at bx;have ao:=zh (hP.o.skip fun c=>hr1 c.1);clear hP hr1 bz;go_wp2;exact⟨⟨q+1,v2,F2,by omega,by go_num,ao,hK,hv⟩,by simp only[intOf];omega⟩
      obtain rfl:q=s.ps.length:=by omega
      have ao:=zh (hP.o.next hfp.o hpn (by omega));clear hP;go_wp2;exact⟨⟨p+1,v2,F2,by omega,by go_num,ao⟩,by simp only[intOf];omega⟩
    rw[A7 hfp]at ah;have ao:=zh (hP.o.had hfp);clear hfp hP;go_wp2;exact⟨⟨p+1,v,F,by omega,by go_num,ao⟩,by simp only[intOf];omega⟩
   obtain rfl:p=s.ps.length:=by omega
   obtain⟨w7,cB⟩:∃x,x=wr:=⟨_,rfl⟩;subst cB;have bP:=zh (P2.start hP.o aa.o);have hF:Hid (∀x,x<s.ps.length->F x=(fst E x:Int)):=fun x hx=>hP.o.fs x hx (VC hx);have a4:=zh hP.o.ro
   have av:Hid (∀x,x∈leasts s.ps.length E->w7.ownsRow w0.heap.size 3 1 (v x) (CD s.ps.length E x).length (Bz (CD s.ps.length E x))):=fun x hx=>by
    have cg:=(B8.1 hx).1;have h:=hP.o.lm.rows x cg
    rwa [Er,OX cg,zE hx]at h
   have bM:=zh (aU.o.kp hP.o.kp (by have:=ag.o.2.1;simp;omega) (fun i b hi e=>by have:=ag.o.2.2.2 i b hi e;simp;omega));have ci:Hid (Below w.heap.size w w7):=hP.o.kp.to_below bj.o fun x hx=>by simp at hx;omega
   have cm:S<w7.heap.size:=by have:=hP.o.kp.size;have:=ad.o;omega
   have ae:Hid (R2∉[S]/\(∀i b,i<s.ps.length->(vb i).ownBlock=some b->b∉[S])/\S+1∉[S]/\∀x b,x∈leasts s.ps.length E->(v x).ownBlock=some b->b∉[S]):=by
    refine⟨by have:=ag.o.2.1;simp;omega,fun i b hi e=>by have:=ag.o.2.2.2 i b hi e;simp;omega,by simp,fun x b hx e=>?_⟩;have h1:=((av.o x hx).lt b e).1;have h2:=ad.o;simp;omega
   clear hP aU bm ag bj ad;go_wp2
   go_loopg [13] (leasts s.ps.length E).length (fun m u wz=>∃(A:Option Addr)(c:Nat)(pre left:List Nat),m=left.length/\u=.slice A pre.length c/\Hid (P2 E s.ps.length w7 S v pre left (.slice A pre.length c) wz))
   case atStart=>exact⟨none,0,[],_,rfl,rfl,bP⟩
   case round=>
    obtain⟨A,c,pre,left,hm,rfl,hP⟩:=hrel;clear bP;have b1:=hP.o.len 3
    by_cases hl0:left=[]
    .subst hl0;have b6:Hid (ords s.ps.length E=pre):=hP.o.st.end
     have ab:Hid (∀x,x∈pre->x∈leasts s.ps.length E):=fun x hx=>by
      have:=hP.o.st.had x hx;exact B8.2 ⟨this.1,this.2.1⟩
     have cl:=zh (LA (E:=E) (n:=s.ps.length) (by omega) hP.o.o fun p hp=>Iv (av.o p (ab.o p hp)) hP.o.kp fun b e=>ae.o.2.2.2 p b (ab.o p hp) e);have cj:Hid (Below w.heap.size w wr):=hP.o.kp.to_below ci.o fun x hx=>by simp at hx;omega
     have cu:Hid (pre.length=(B5 E s.ps.length v pre).length):=by unfold Hid B5;simp
     clear hm hP;go_wp2;go_ret2;exact bn.o _ _ A c _ _ rfl cu.o cl.o (by rw[JA,bb.o,b6.o]) cj.o
    have bx:0<(left.length:Int):=by have:=List.length_pos_iff.2 hl0;omega
    have a9:Hid (∀x,x<0->x∈left->¬EL E left x):=fun x hx=>absurd hx (zi _)
    have au:Hid (∀x,x∈left->x<s.ps.length/\x∈leasts s.ps.length E):=fun x hx=>by
     have:=hP.o.st.ok.own x hx;exact⟨this.1,B8.2 this⟩
    go_wp2;go_step3;go_wp2;go_step3;go_wp2
    go_loopw [13,83] (fun u ix wz=>∃p:Nat,p<=s.ps.length/\u=.slice A pre.length c/\ix=.int .i64 (p:Int)/\wz=wr/\Hid (∀x,x<p->x∈left->¬EL E left x)) (fun _ ix _=>s.ps.length-(intOf ix).toNat)
    case atStart=>exact⟨0,zO _,rfl,rfl,rfl,a9⟩
    case round=>
     clear a9 b1;obtain⟨p,hp,rfl,rfl,aR,a3⟩:=hrel;subst aR
     by_cases hpn:p<s.ps.length
     .have ah:=hP.o.look hpn (by omega);have p0:(0:Int)<=(p:Int):=by omega
      have p1:(p:Int)<(s.ps.length:Int):=by omega
      by_cases ab:p∈left
      .rw [zE ab,A7 ab]at ah;obtain⟨af,aQ⟩:=JB (Iv (av.o p (au.o p ab).2) hP.o.kp fun b e=>ae.o.2.2.2 p b (au.o p ab).2 e);rw[af]at ah;have cI:=zh hpn
       have bX:Hid ((CD s.ps.length E p).length<=s.ps.length):=by
        unfold Hid CD;have h:=yD (fun q=>decide (Mut E p q)) (List.range s.ps.length)
        rwa [yV]at h
       have bW:Hid (∀q,q∈CD s.ps.length E p->q<s.ps.length/\Mut E p q):=fun q hq=>Db.1 hq;have bY:Hid ((∀q,q∈CD s.ps.length E p->∀h,(h,q)∈E->fst E h∈left->fst E h=p)->EL E left p):=fun h=>(KH aa.o).2 h;have b5:Hid (∀h q,q∈CD s.ps.length E p->(h,q)∈E->fst E h∈left->fst E h≠p->¬EL E left p):=fun h q hq he hl cz ck=>cz ((KH aa.o).1 ck q hq h he hl);obtain⟨cmp,aL⟩:∃x,x=CD s.ps.length E p:=⟨_,rfl⟩;rw[<-aL]at ah af aQ bX bW bY b5;obtain⟨Ap2,aF⟩:∃x,x=slA (v p):=⟨_,rfl⟩;obtain⟨be,a8⟩:∃x,x=slC (v p):=⟨_,rfl⟩;rw[<-aF,<-a8]at ah af;rw[<-aF]at aQ;have bT:Hid (∀q,q∈cmp.take 0->∀h,(h,q)∈E->fst E h∈left->fst E h=p):=fun q hq=>by simp at hq
       replace af:=zh af;replace aQ:=zh aQ;replace aL:=zh aL;clear aF a8;go_wp2
       go_loopw [96] (fun ix wz=>∃j:Nat,j<=cmp.length/\ix=.int .i64 (j:Int)/\wz=wr/\Hid (∀q,q∈cmp.take j->∀h,(h,q)∈E->fst E h∈left->fst E h=p)) (fun ix _=>cmp.length-(intOf ix).toNat)
       case atStart=>exact⟨0,zO _,rfl,rfl,bT⟩
       case round=>
        clear bT ah;obtain⟨j,hj,rfl,aR,aY⟩:=hrel;subst aR
        by_cases hjl:j<cmp.length
        .obtain ⟨gp,op,rfl,cK,a0⟩:=aQ.o (by simpa using yM (zO _) hjl);have e1:=a0 j (by simpa using hjl);simp only[yA]at e1;have bB:=zh (zQ hjl);have a6:cmp.take (j+1)=cmp.take j++[cmp[j]]:=zS hjl;obtain⟨q,b8⟩:∃x,x=cmp[j]:=⟨_,rfl⟩;rw[<-b8]at e1 bB a6;have ak:q<s.ps.length:=(bW.o q bB.o).1;have aj:=bM.o.kp hP.o.kp ae.o.1 ae.o.2.1;have d1:=aj.hd q ak;have d2:=aj.lt;obtain⟨A3,c3,bE,d⟩:=SY (bM.o.rows q ak);rw[bE]at d1
         have bt:Hid (∀i (hi:i<(T q).length),∃gg,A3=some ⟨gg,0,none⟩/\wr.cell? ⟨gg,i,none⟩=some (.int .i64 ((T q)[i]:Int))/\gg<wr.heap.size):=fun i hi=>by
          obtain⟨gg,hA,h1,h2⟩:=d i hi;exact⟨gg,hA,(zR (a:=⟨gg,i,none⟩) (hP.o.kp.block gg h1 (ae.o.2.1 q gg ak (by rw[bE,hA];rfl)))).trans h2,zL h1 hP.o.kp.size⟩
         have j0:(0:Int)<=(j:Int):=by omega
         have j1:(j:Int)<(cmp.length:Int):=by omega
         have j2:(0:Int)<=(q:Int):=by omega
         have j3:(q:Int)<(s.ps.length:Int):=by omega
         have bS:Hid (∀h,h∈T q<->(h,q)∈E):=fun h=>by rw[bR.o q h ak,Fa]
         have cC:=bQ.o q;have aE:Hid (∀h,h∈(T q).take 0->fst E h∈left->fst E h=p):=fun h hh=>by simp at hh
         replace a6:=zh a6;clear aj d bE b8 a0;go_wp2
         go_loopw [105] (fun ix wz=>∃i:Nat,i<=(T q).length/\ix=.int .i64 (i:Int)/\wz=wr/\Hid (∀h,h∈(T q).take i->fst E h∈left->fst E h=p)) (fun ix _=>(T q).length-(intOf ix).toNat)
         case atStart=>exact⟨0,zO _,rfl,rfl,aE⟩
         case round=>
          clear aE;obtain⟨i,hi,rfl,aR,bH⟩:=hrel;subst aR
          by_cases hil:i<(T q).length
          .obtain ⟨gg,rfl,a0,cE⟩:=bt.o i hil;have bu:=(bS.o _).1 (zQ hil);have aP:(T q).take (i+1)=(T q).take i++[(T q)[i]]:=zS hil;obtain⟨h,b0⟩:∃x,x=(T q)[i]:=⟨_,rfl⟩;rw[<-b0]at a0 bu aP;have a1:h<s.ps.length:=(aa.o _ bu).1;have aO:=hP.o.kp;have f1:=(a4.o.of_block aO.size (aO.block (S+1) a4.o.lt ae.o.2.2.1)).cell h a1;have f2:=(a4.o.of_block aO.size (aO.block (S+1) a4.o.lt ae.o.2.2.1)).lt;rw[hF.o h a1]at f1;have an:=hP.o.look (FF (E:=E) a1) (by omega)
           have aK:fst E h∈left->fst E h=p\/¬EL E left p:=fun hl=>by
            by_cases e:fst E h=p
            .exact .inl e
            exact .inr (b5.o h q bB.o bu hl e)
           obtain⟨fh,aZ⟩:∃x,x=fst E h:=⟨_,rfl⟩
           have aS:Hid ((fh∈left->fh=p)->∀x,x∈(T q).take (i+1)->fst E x∈left->fst E x=p):=fun hx x hm hl=>by
            rw[aP]at hm
            rcases List.mem_append.1 hm with hm|hm
            .exact bH.o x hm hl
            rw[List.mem_singleton.1 hm,<-aZ]at hl ⊢;exact hx hl
           have cJ:fh<s.ps.length:=by rw[aZ];exact FF a1
           rw[<-aZ]at f1 an aK;have i0':(0:Int)<=(i:Int):=by omega
           have i1':(i:Int)<((T q).length:Int):=by omega
           have i2':(0:Int)<=(h:Int):=by omega
           have i3':(h:Int)<(s.ps.length:Int):=by omega
           clear b0 aZ aP aO bt
           by_cases hfl:fh∈left
           .rw [zE hfl,A7 hfl]at an
            by_cases hfe:fh=p
            .have m1:((fh:Int) != (p:Int))=false:=by rw[yo];omega
             have ax:=zh (aS.o fun _=>hfe);subst hfe;clear aK aS;go_wp2;exact⟨⟨i+1,by omega,by go_num,trivial,ax⟩,by simp only[intOf];omega⟩
            have m1:((fh:Int) != (p:Int))=true:=by rw[zj];omega
            have aN:Hid (∀x,x<p+1->x∈left->¬EL E left x):=fun x hx a7=>by
             by_cases e:x=p
             .subst e;exact(aK hfl).resolve_left hfe
             exact a3.o x (by omega) a7
            replace hfe:=zh hfe;clear aK aS;go_wp2;exact⟨⟨p+1,by omega,rfl,by go_num,trivial,aN⟩,by simp only[intOf];omega⟩
           rw[zC hfl,At hfl]at an;have ax:=zh (aS.o fun c=>absurd c hfl);clear aK aS;go_wp2;exact⟨⟨i+1,by omega,by go_num,trivial,ax⟩,by simp only[intOf];omega⟩
          obtain rfl:i=(T q).length:=by omega
          have bU:Hid (∀q,q∈cmp.take (j+1)->∀h,(h,q)∈E->fst E h∈left->fst E h=p):=fun x hx h he hl=>by
           rw[a6.o]at hx
           rcases List.mem_append.1 hx with hx|hx
           .exact aY.o x hx h he hl
           rw[List.mem_singleton.1 hx]at he;exact bH.o h (by rw[yJ];exact(bS.o h).2 he) hl
          have cD:=bX.o;clear aY bH bt;go_wp2;exact⟨⟨j+1,by omega,by go_num,trivial,bU⟩,by simp only[intOf];omega⟩
        obtain rfl:j=cmp.length:=by omega
        have aG:=bY.o fun q hq=>aY.o q (by rw[yJ];exact hq)
        have b7:Ez E left=some p:=O5 hP.o.st.ok ab aG fun x hx hf=>by
         by_cases c:p<=x
         .exact c
         exact absurd hf (a3.o x (by omega) hx)
        obtain⟨d,a5,aw⟩:=hP.o.step b7 hpn (by omega) cm;have bd:=af.o;rw[bd]at d a5 aw;have had:Hid (∀j u,[(Value.slice Ap2 cmp.length be)][j]? = some u->(wr.alloc (.cells #[.slice Ap2 cmp.length be] 26)).cell? (Addr.add ⟨wr.heap.size,0,none⟩ j)=some u):=BA wr _ _
        have b2:Hid (pre.length<=100):=by
         have h1:=C6 s.ps.length pre (hP.o.pre_nodup aa.o) fun x hx=>(hP.o.st.had x hx).1;unfold Hid;omega
        have ct:Hid ((left.erase p).length<gk):=by
         rw[hm,yY ab];have:=xt ab;unfold Hid;omega
        have ba:Hid ((pre++[p]).length=pre.length+1):=by unfold Hid;simp
        obtain⟨g0,bs,bZ⟩:=Option.map_eq_some_iff.1 OO;simp only[Prod.mk.injEq]at bZ;obtain⟨bf,bg,bh⟩:=bZ;replace d:=zh d;replace a5:=zh a5;replace aw:=zh aw;replace bs:=zh bs;replace bf:=zh bf;replace bg:=zh bg;replace bh:=zh bh;clear aY aG b7 bd hP
        go_wp2_with (at_builtin;refine wpList_append_new _ rfl _ _ 70 rfl w7.heap.size 26 g0 (.slice none 0 0) 1 24 underlying70 bs.o bf.o bg.o bh.o rfl (by decide) (.slice A pre.length c) pre.length _ rfl d.o ⟨wr.heap.size,0,none⟩ 1 1 [.slice Ap2 cmp.length be] rfl rfl had.o (AQ _ rfl) (by decide) (by have:=b2.o;unfold maxLen;omega) (by have:=b2.o;omega) a5.o ?_;intro bI bJ aD aM a2;obtain⟨W4,bC,aq⟩:=aw.o bI bJ aD aM;obtain⟨A9,c9,rfl⟩:=Cu aD;replace aq:=zh aq;clear aD aM a2)
        rw[Exit.noGoto_normal];go_wp2
        go_roundg (left.erase p).length
        case measure=>exact ct.o
        case rel=>exact⟨A9,c9,pre++[p],left.erase p,rfl,by rw[ba.o],by have h:=aq.o;rwa [<-ba.o]at h⟩
      rw[zC ab,At ab]at ah
      have aN:Hid (∀x,x<p+1->x∈left->¬EL E left x):=fun x hx a7=>by
       by_cases e:x=p
       .subst e;exact absurd a7 ab
       exact a3.o x (by omega) a7
      clear ab;go_wp2;exact⟨⟨p+1,by omega,rfl,by go_num,trivial,aN⟩,by simp only[intOf];omega⟩
     exfalso;obtain⟨x,hx,hf⟩:=hP.o.st.ok.free hl0;exact a3.o x (by have:=(au.o x hx).1;omega) hx hf
end Ci
end
section
open Go.RowKit Go.Shelf
namespace Sh
open Nt Ci
theorem Qv{S:Rat->Bool}{L:List Lp}{u:List Nat}{val:Nat->Rat}{p:Nat}(h:p∉u):Ct S L u val p=val p:=by
 unfold Ct
 cases Ax S u.length u.length (sysA L u val) with
 |ok M=>exact zC h
 |error _=>rfl
theorem D2{l:List Nat}{i x:Nat}(h:i<l.length):x∈l.take (i+1)<->x∈l.take i\/x=l[i]:=by
 rw[zS h,yz,xK]
theorem GI{S:Rat->Bool}{L:List Lp}{u:List Nat}:∀(us:List (List Nat)) (val:Nat->Rat),Lt S L (us++[u]) val=Ct S L u (Lt S L us val)
 | [],_=>rfl
 |_::us,_=>GI us _
theorem Ready.take{L:List Lp}{F:List Nat}:∀{us:List (List Nat)} {done:List Nat} (k:Nat),Ready L F done us->Ready L F done (us.take k)
 | [],_,k,_=>by rw[List.take_nil];trivial
 |_::_,_,0,_=>trivial
 |_::us,_,k+1,h=>⟨h.1,Ready.take k h.2⟩
theorem Ready.at{L:List Lp}{F:List Nat}:∀{us:List (List Nat)} {done:List Nat} (k:Nat) (hk:k<us.length),Ready L F done us->Nxt L F (done++(us.take k).flatten) us[k]
 |u::us,done,0,_,h=>by simpa using h.1
 |u::us,done,k+1,hk,h=>by
  have:=Ready.at (done:=done++u) k (by simpa using hk) h.2
  simpa [xS] using this
noncomputable def Dn(L:List Lp)(F:List Nat)(us:List (List Nat))(k:Nat):Nat->Rat:=Lt SQ L (us.take k) fun p=>if p∈F then 1 else 0
theorem NH{L:List Lp}{F:List Nat}{us:List (List Nat)}{k:Nat}(hk:k<us.length):Dn L F us (k+1)=Ct SQ L us[k] (Dn L F us k):=by
 unfold Dn;rw[zS hk,GI]
theorem JE{us:List (List Nat)}{k:Nat}(hk:k<us.length):(us.take k).flatten.length+us[k].length<=us.flatten.length:=by
 have h:=congrArg (fun l=>(List.flatten l).length) (yt (k+1) us);simp only[xV,zY,zS hk,wL,List.flatten_nil,wT]at h;omega
theorem JF{n:Nat}{L:List Lp}{F:List Nat}{us:List (List Nat)}(hL:Caps n L)(hr:Ready L F [] us)(d:us.flatten.length<=16)(k:Nat):
 ∃D,D<=6000^16/\Inv L F (us.take k).flatten (Dn L F us k) D:=by
 have a:(us.take k).flatten.length<=16:=by
  have h:=congrArg (fun l=>(List.flatten l).length) (yt k us);simp only[xV,zY]at h;omega
 obtain⟨D,hD⟩:=Inv.run hL Nu (us.take k) [] _ 1 (Inv.start L F) (hr.take k) (by simpa using a);rw[yW]at hD;exact⟨D,zV hD.dle (zW (by omega) a),hD⟩
theorem Inv.vals{L:List Lp}{F done:List Nat}{val:Nat->Rat}{D:Nat}(h:Inv L F done val D)(hD:D<=6000^16):Vals val D:=⟨h.rng,h.dp,hD,h.whole⟩
theorem I5{L:List Lp}{F:List Nat}{us:List (List Nat)}(hr:Ready L F [] us){k:Nat}(hk:k<us.length):Nxt L F (us.take k).flatten us[k]:=by
 have:=hr.at k hk
 rwa [yW]at this
noncomputable def Fb(L:List Lp)(u:List Nat)(val:Nat->Rat)(i:Nat):Nat->Rat:=fun p=>if p∈u.take i then Ct SQ L u val p else val p
theorem LC{L:List Lp}{u:List Nat}{val:Nat->Rat}:Fb L u val 0=val:=by funext p;unfold Fb;simp
theorem LD{L:List Lp}{u:List Nat}{val:Nat->Rat}{i:Nat}(h:i<u.length)(x:Nat):(if x=u[i] then Ct SQ L u val u[i] else Fb L u val i x)=Fb L u val (i+1) x:=by
 unfold Fb
 by_cases e:x=u[i]
 .rw[zE e,zE ((D2 h).2 (.inr e)),e]
 rw[zC e]
 by_cases e2:x∈u.take i
 .rw[zE e2,zE ((D2 h).2 (.inl e2))]
 rw[zC e2,zC fun c=>((D2 h).1 c).elim e2 e]
theorem OZ{L:List Lp}{u:List Nat}{val:Nat->Rat}:Fb L u val u.length=Ct SQ L u val:=by
 funext p
 unfold Fb;rw[yJ]
 by_cases e:p∈u
 .rw[zE e]
 rw[zC e,Qv e]
noncomputable def Hr(F:List Nat)(k:Nat):Nat->Rat:=fun p=>if p∈F.take k then 1 else 0
theorem Qw{F:List Nat}:Hr F 0=fun _=>0:=by funext p;unfold Hr;simp
theorem Qx{F:List Nat}{k p:Nat}(h:F[k]? = some p)(x:Nat):(if x=p then (1:Rat) else Hr F k x)=Hr F (k+1) x:=by
 obtain⟨hk,rfl⟩:=List.getElem?_eq_some_iff.1 h;unfold Hr
 by_cases e:x=F[k]
 .rw[zE e,zE ((D2 hk).2 (.inr e))]
 rw[zC e]
 by_cases e2:x∈F.take k
 .rw[zE e2,zE ((D2 hk).2 (.inl e2))]
 rw[zC e2,zC fun c=>((D2 hk).1 c).elim e2 e]
theorem SZ{L:List Lp}{F:List Nat}{us:List (List Nat)}:Hr F F.length=Dn L F us 0:=by
 funext p;unfold Hr Dn;rw[yJ,xj];rfl
theorem GJ{s:SR}{l:List (Option Addr×Nat×List Int)}(h:baR l=CL s){k:Nat}(hk:k<l.length):∃hc:k<(Aj s.ps.length (Ad s)).length,l[k].2.2=((Aj s.ps.length (Ad s))[k]).map fun(q:Nat)=>(q:Int):=by
 have hl:=congrArg List.length h;simp only[baR,CL,zU]at hl;refine⟨by omega,?_⟩;have h1:(baR l)[k]'(by simpa [baR] using hk)=(CL s)[k]'(by simp[CL];omega):=by simp only[h]
 simpa [baR,CL] using h1
noncomputable def CF(n:Nat)(E:List (Nat×Nat))(F:List Nat)(t:Nat):List (List Nat):=((Aj n E).take t).map (unk E F)
noncomputable def Dh(n:Nat)(E:List (Nat×Nat))(F:List Nat)(t:Nat):List (List Nat):=(CF n E F t).filter fun u=>decide (u≠[])
section
variable {n:Nat} {E:List (Nat×Nat)} {F:List Nat} {t:Nat}
theorem Fy(h:t<(Aj n E).length):CF n E F (t+1)=CF n E F t++[unk E F (Aj n E)[t]]:=by
 unfold CF;rw[zS h,yf,wQ]
theorem DI:CF n E F (Aj n E).length=BP n E F:=by unfold CF BP;rw[yJ]
theorem LE:Dh n E F (Aj n E).length=Df n E F:=by unfold Dh Df;rw[DI]
theorem LF(h:t<(Aj n E).length)(h0:unk E F (Aj n E)[t]=[]):Dh n E F (t+1)=Dh n E F t:=by
 unfold Dh;rw[Fy h,yx,h0];simp
theorem GK(h:t<(Aj n E).length)(h0:unk E F (Aj n E)[t]≠[]):Dh n E F (t+1)=Dh n E F t++[unk E F (Aj n E)[t]]:=by
 unfold Dh;rw[Fy h,yx];simp[h0]
theorem JG:(CF n E F t).flatten.length<=(BP n E F).flatten.length:=by
 have e:CF n E F t=(BP n E F).take t:=by unfold CF BP;rw[List.map_take]
 rw[e];have h:=congrArg (fun l=>(List.flatten l).length) (yt t (BP n E F));simp only[xV,zY]at h;omega
theorem NI(h:t<(Aj n E).length):(CF n E F (t+1)).flatten.length=(CF n E F t).flatten.length+(unk E F (Aj n E)[t]).length:=by
 rw[Fy h,xV,zY];simp
theorem LG:(Dh n E F t).length<=t:=by
 unfold Dh CF;refine zV (yD _ _) ?_;rw[zU,xY];omega
theorem LH(h:t<(Aj n E).length)(h8:8<(unk E F (Aj n E)[t]).length):BE n E F=true:=by
 unfold BE;rw[Bool.or_eq_true,List.any_eq_true];refine .inl ⟨_,?_,zH h8⟩;unfold BP;exact List.mem_map.2 ⟨_,zQ h,rfl⟩
theorem LI(h:16<(CF n E F (Aj n E).length).flatten.length):BE n E F=true:=by
 unfold BE;rw[DI]at h;rw[zH h,Bool.or_true]
theorem Pa(h:(CF n E F (Aj n E).length).flatten.length<=16)(h8:∀u,u∈CF n E F (Aj n E).length->u.length<=8):BE n E F=false:=by
 unfold BE;rw[DI]at h h8;rw[zD (by omega),Bool.or_false];refine Bool.eq_false_iff.2 fun c=>?_;obtain⟨u,hu,h9⟩:=List.any_eq_true.1 c;have:=zf h9;have:=h8 u hu;omega
theorem LJ{c:List Nat}{i:Nat}(h:i<c.length):unk E F (c.take (i+1))=unk E F (c.take i)++if 0<rk E F c[i] then [c[i]] else []:=by
 unfold unk;rw[zS h,yx]
 congr 1
 by_cases d:0<rk E F c[i]
 .simp[d]
 simp[d]
theorem Qy{k i:Nat}(hE:InN n E)(hk:k<(Aj n E).length)(hi:i<((Aj n E)[k]).length):((Aj n E)[k])[i]<n/\at' n E ((Aj n E)[k])[i]=k:=by
 have hm:=zQ hi
 have a:∀q,q∈(Aj n E)[k]->q<n:=by
  rw[Fv];exact fun q hq=>(Db.1 hq).1
 have h1:((Aj n E)[k])[i]<n:=a _ hm;exact⟨h1,((GD hE h1 hk).1 hm).symm⟩
theorem Fc(hE:InN n E){t:Nat}(h:t<(Aj n E).length):∀p,p∈(Aj n E)[t]->p<n:=fun p hp=>by
 obtain⟨i,hi,rfl⟩:=zl hp;exact(Qy hE h hi).1
theorem H6{c:List Nat}:(unk E F c).length<=c.length:=yD _ _
theorem Qz(hE:InN n E){u:List Nat}(h:u∈Df n E F):(∀p,p∈u->p<n)/\u∈CF n E F (Aj n E).length:=by
 have h1:=(List.mem_filter.1 h).1;refine⟨fun p hp=>?_,by rw[DI];exact h1⟩;obtain⟨c,hc,rfl⟩:=List.mem_map.1 h1;obtain⟨t,ht,rfl⟩:=zl hc;exact Fc hE ht p (List.mem_filter.1 hp).1
theorem U2{E:List Ent}(h:(E.map Ent.x).Nodup){k:Nat}(hk:k<E.length):E[k].x∉(E.take k).map Ent.x:=fun hm=>by
 obtain⟨e,he,hx⟩:=List.mem_map.1 hm;obtain⟨j,hj,rfl⟩:=zl he;rw[xY]at hj;rw[List.getElem_take]at hx;have:=List.pairwise_iff_getElem.1 h j k (by rw[zU];omega) (by rw[zU];omega) (by omega);rw[yA,yA]at this;exact this hx
theorem Hg{L:List Lp}(hL:Caps n L):Ready L F [] (Df n (Ae L) F):=(Fw hL.inN).drop_nil
end
end Sh
end
section
open Go.RowKit Go.Shelf
namespace Sh
open Nt Ci
theorem Kt(A:Option Addr)(ca:Nat)(n:Int)(l:List Int)(w:World)(hA:InInt w A l)(hl:l.length<=140737488355328):
 Calls prog 40 #[.slice A l.length ca,.int .i64 n] w fun e w'=>e=.returned (.bool (Be n l))/\w'=w:=by
 have ae:=zh (fun(k:Nat) (h:k<l.length) (hb:¬BX n l k h)=>Gs h hb);have ad:=zh (Gt (n:=n) (l:=l));replace hA:=zh hA;go_enter func40,ntmps40;go_wp2
 go_loopw [9] (fun i wr=>wr=w/\∃k:Nat,k<=l.length/\i=.int .i64 (k:Int)/\Hid (∀j (h:j<l.length),j<k->BX n l j h)) (fun i _=>l.length-(intOf i).toNat)
 case atStart=>exact⟨rfl,0,zO _,rfl,fun j _ h=>absurd h (zi _)⟩
 case round=>
  obtain⟨rfl,k,hk,rfl,hI⟩:=hrel;obtain⟨wq,rfl⟩:∃z,z=wr:=⟨_,rfl⟩
  by_cases hlt:k<l.length
  .obtain ⟨b1,o1,rfl,ag,aa⟩:=hA.o (by omega);have e1:wq.cell? ⟨b1,o1+k,none⟩=some (.int .i64 l[k]):=aa k hlt;have e0:Hid (0<k->wq.cell? ⟨b1,o1+(k-1),none⟩=some (.int .i64 (l[k-1]'(by omega)))):=fun h=>aa (k-1) (by omega);have s:=zh (ae.o k hlt)
   have ab:Hid (BX n l k hlt->∀j (h:j<l.length),j<k+1->BX n l j h):=fun h j h1 h3=>by
    by_cases e:j=k
    .subst e;exact h
    exact hI.o j h1 (by omega)
   have a:Hid (BX n l k hlt<->(0<=l[k]/\l[k]<n)/\(0<k->l[k-1]'(by omega)<l[k])):=wY;obtain⟨x,hx⟩:∃x,x=l[k]:=⟨_,rfl⟩;rw[<-hx]at e1 a;have j0:(0:Int)<=(k:Int):=by omega
   have j1:(k:Int)<(l.length:Int):=by omega
   clear aa hI hx;have af:x<0\/(0<=x/\n<=x)\/(0<=x/\x<n):=by omega
   rcases af with h1|⟨h1,h2⟩|⟨h1,h2⟩
   .have hG:=zh (s.o fun h=>by have:=(a.o.1 h).1.1;omega);have m1:decide (x<0)=true:=zH h1;go_wp2;go_ret;exact⟨Ag hG.o.symm,rfl⟩
   .have hG:=zh (s.o fun h=>by have:=(a.o.1 h).1.2;omega);have m1:decide (x<0)=false:=zD (by omega);have m2:decide (n<=x)=true:=zH h2;go_wp2;go_ret;exact⟨Ag hG.o.symm,rfl⟩
   have m1:decide (x<0)=false:=zD (by omega);have m2:decide (n<=x)=false:=zD (by omega)
   by_cases hk0:k=0
   .have m3:decide (0<(k:Int))=false:=zD (by omega);have m4:decide (0<k)=false:=zD (by omega);have d:=zh (ab.o (a.o.2 ⟨⟨h1,h2⟩,fun h=>by omega⟩));replace hk0:=zh hk0;go_wp2;exact⟨⟨(by first|rfl|trivial),k+1,by omega,by go_num,d⟩,by simp only[intOf];omega⟩
   have m3:decide (0<(k:Int))=true:=zH (by omega);have m4:decide (0<k)=true:=zH (by omega);have e2:=e0.o (by omega);obtain⟨y,hy⟩:∃y,y=l[k-1]'(by omega):=⟨_,rfl⟩;rw[<-hy]at e2;have j2:(0:Int)<=(k:Int)-1:=by omega
   have j3:(k:Int)-1<(l.length:Int):=by omega
   have j5:((k:Int)-1).toNat=k-1:=by omega
   by_cases hxy:y<x
   .have m5:decide (x<=y)=false:=zD (by omega);have d:=zh (ab.o (a.o.2 ⟨⟨h1,h2⟩,fun _=>by rw[<-hy];exact hxy⟩));replace hy:=zh hy;go_wp2;exact⟨⟨(by first|rfl|trivial),k+1,by omega,by go_num,d⟩,by simp only[intOf];omega⟩
   have m5:decide (x<=y)=true:=zH (by omega);have hG:=zh (s.o fun h=>by have h3:=(a.o.1 h).2 (by omega);rw[<-hy]at h3;omega);replace hy:=zh hy;go_wp2;go_ret;exact⟨Ag hG.o.symm,rfl⟩
  obtain rfl:k=l.length:=by omega
  have hG:=zh (ad.o fun j h=>hI.o j h h);clear hI;go_wp2;go_ret;exact⟨Ag hG.o.symm,rfl⟩
theorem VD:(prog.info? 76).map (fun i=>(i.zero,i.size,i.bytes))=some (some (.pointer none),1,8):=by kernel_rfl
theorem JH{n:Nat}{F:List Int}(h:Be n F=true):F.length<=n:=by
 have hk:∀k (hk:k<F.length),(k:Int)<=F[k]:=fun k=>by
  induction k with
  |zero=>intro hk;exact(DH h hk).1.1
  |succ k ih=>
   intro hk;have h1:=ih (by omega);have h2:=(DH h hk).2 (by omega);simp only[wR]at h2;omega
 by_cases h0:0<F.length
 .have h1:=hk (F.length-1) (by omega);have h2:=(DH h (by omega:F.length-1<F.length)).1.2;omega
 omega
theorem DJ{W W':World}{A:Option Addr}{l:List (Option Addr×Nat×List Int)}(h:Qr W A l)(hb:Below W.heap.size W W'):Qr W' A l:=fun h0=>by
 obtain⟨b,off,e,hl,hc⟩:=h h0;exact⟨b,off,e,zL hl hb.size,fun j hj=>⟨(hb.cell (p:=⟨b,_,none⟩) hl).trans (hc j hj).1,(hc j hj).2.1.below hb,(hc j hj).2.2⟩⟩
theorem VMC.off{w:World}{vb mb n C b o:Nat}{val:Nat->Rat}{x:Value}(h:VMC w vb mb n val C)(hc:w.cell? ⟨b,o,none⟩=some x):b≠mb:=fun e=>by
 obtain⟨c,f,⟨D,⟨es,clock,hb,_⟩,_⟩,_⟩:=h.m;subst e;rw[World.cell?,hb]at hc
 cases hc
theorem Ta{w w':World}{xs:List Nat}{A:Option Addr}{l:List Raw}(h:InRow w A l)(hk:Kp xs w w')(hb:∀b o,A=some ⟨b,o,none⟩->b∉xs):InRow w' A l:=fun h0=>by
 obtain⟨b,o,e,hl,hc⟩:=h h0;have d:=hk.block b hl (hb b o e);exact⟨b,o,e,zL hl hk.size,fun j hj=>⟨(zR (a:=⟨b,o+j*3,none⟩) d).trans (hc j hj).1,(zR (a:=⟨b,o+j*3+1,none⟩) d).trans (hc j hj).2.1,(zR (a:=⟨b,o+j*3+2,none⟩) d).trans (hc j hj).2.2⟩⟩
def Fd(s:SR)(F:List Int)(w:World)(e:Ending)(w':World):Prop :=
 (if Am s=true/\Be s.ps.length F=true then
   (if BE s.ps.length (Ad s) (toN F)=true then e=.returned (.tuple #[.slice none 0 0,.int .i64 2])
    else ∃b,e=.returned (.tuple #[.slice (some ⟨b,0,none⟩) s.ps.length s.ps.length,.int .i64 0])/\w.heap.size<=b/\RowB w' b s.ps.length fun p=>rq (Hq SQ s.ps.length (Ai s.cap) (toN F) p))
   else e=.returned (.tuple #[.slice none 0 0,.int .i64 1]))/\Below w.heap.size w w'
theorem U5(s:SR)(Ap Ac Av Af:Option Addr)(cp cc cv cf:Nat)(F:List Int)(w:World)(hE:Env w)(hs:StIn w s Ap Ac Av)(cG:s.cap.length<=300)(hF:InInt w Af F)(dq:F.length<=140737488355328):
 Calls prog 13 #[.agg #[.slice Ap s.ps.length cp,.slice Ac s.cap.length cc,.slice Av s.vot.length cv],.slice Af F.length cf] w (Fd s F w):=by
 have eo:=hs.np;have ab:Hid (Bk (w.alloc (.cells #[.slice Ap s.ps.length cp,.slice Ac s.cap.length cc,.slice Av s.vot.length cv] 25)) w.heap.size 25 (SC s Ap Ac Av cp cc cv)):=Bk.new w _ _;have aj:Hid (Below w.heap.size w (w.alloc (.cells #[.slice Ap s.ps.length cp,.slice Ac s.cap.length cc,.slice Av s.vot.length cv] 25))):=(zI _ w).alloc (zB _) _;have ba:Hid (∀e w',(¬(Am s=true/\Be s.ps.length F=true))->e=.returned (.tuple #[.slice none 0 0,.int .i64 1])->Below w.heap.size w w'->Fd s F w e w'):=fun e w' h1 h2 h3=>⟨by rw[zC h1];exact h2,h3⟩;have bh:Hid (∀e w',Am s=true/\Be s.ps.length F=true->BE s.ps.length (Ad s) (toN F)=true->e=.returned (.tuple #[.slice none 0 0,.int .i64 2])->Below w.heap.size w w'->Fd s F w e w'):=fun e w' h1 h2 h3 h4=>⟨by rw[zE h1,zE h2];exact h3,h4⟩;have bf:Hid (∀e w' b,Am s=true/\Be s.ps.length F=true->BE s.ps.length (Ad s) (toN F)=false->e=.returned (.tuple #[.slice (some ⟨b,0,none⟩) s.ps.length s.ps.length,.int .i64 0])->w.heap.size<=b->RowB w' b s.ps.length (fun p=>rq (Hq SQ s.ps.length (Ai s.cap) (toN F) p))->Below w.heap.size w w'->Fd s F w e w'):=fun e w' b h1 h2 h3 h4 h5 h6=>⟨by rw[zE h1,zC (by rw[h2];decide)];exact⟨b,h3,h4,h5⟩,h6⟩;have kS:=fun W (h:Below w.heap.size w W)=>G8 s Ap Ac Av cp cc cv W (hE.below h) (hs.below h);have cZ:Hid (∀W,Below w.heap.size w W->StIn W s Ap Ac Av):=fun W h=>hs.below h;have kR:=zh (fun W (h:Below w.heap.size w W)=>Qu s Ap Ac Av Af cp cc cv cf F W (hE.below h) (cZ.o W h) cG (hF.below h) dq);have kC:=zh (fun W (h:Below w.heap.size w W)=>I4 s Ap Ac Av cp cc cv W (hE.below h) (cZ.o W h) cG);have kP:=fun W (h:Below w.heap.size w W)=>Kt Af cf (s.ps.length:Int) F W (hF.below h) dq;replace hE:=zh hE;replace hs:=zh hs;replace hF:=zh hF
 cases ae:Am s with
 |false=>
  have cW:Hid (¬(Am s=true/\Be s.ps.length F=true)):=fun h=>by rw[ae]at h;cases h.1
  rw[ae]at kS;replace kS:=zh kS;replace ae:=zh ae;have u0:=ab.o.c0;have u1:=ab.o.c1;have u2:=ab.o.c2;have u9:=ab.o.lt;go_enter func13,ntmps13
  go_wp2_with fail
  go_step3
  go_wp2_with fail
  refine(kS.o _ aj.o).q fun w1 hb=>?_;have aC:=aj.t hb;have ad:=zh (ab.o.below hb);clear hb kS aj ab u0 u1 u2 u9;go_wp2;rw[vH];go_ret2;exact ba.o _ _ cW.o rfl aC.o
 |true=>
  rw[ae]at kS;replace kS:=zh kS;replace ae:=zh ae
  cases aw:Be s.ps.length F with
  |false=>
   have cW:Hid (¬(Am s=true/\Be s.ps.length F=true)):=fun h=>by rw[aw]at h;cases h.2
   rw[aw]at kP;replace kP:=zh kP;replace aw:=zh aw;have u0:=ab.o.c0;have u1:=ab.o.c1;have u2:=ab.o.c2;have u9:=ab.o.lt;go_enter func13,ntmps13
   go_wp2_with fail
   go_step3
   go_wp2_with fail
   refine(kS.o _ aj.o).q fun w1 hb=>?_;have aC:=aj.t hb;have ad:=zh (ab.o.below hb);clear hb kS aj ab u0 u1 u2 u9;have u0:=ad.o.c0;have u1:=ad.o.c1;have u2:=ad.o.c2;have u9:=ad.o.lt
   go_wp2_with fail
   refine(kP.o _ aC.o).q fun wq hq=>?_;obtain rfl:=hq.symm;go_wp2;rw[vH];go_ret2;exact ba.o _ _ cW.o rfl aC.o
  |true=>
   rw[aw]at kP;replace kP:=zh kP;have u0:=ab.o.c0;have u1:=ab.o.c1;have u2:=ab.o.c2;have u9:=ab.o.lt;go_enter func13,ntmps13
   go_wp2_with fail
   go_step3
   go_wp2_with fail
   refine(kS.o _ aj.o).q fun w1 hb=>?_;have aC:=aj.t hb;have ad:=zh (ab.o.below hb);clear hb kS aj ab u0 u1 u2 u9;have u0:=ad.o.c0;have u1:=ad.o.c1;have u2:=ad.o.c2;have u9:=ad.o.lt
   go_wp2_with fail
   refine(kP.o _ aC.o).q fun wq hq=>?_;obtain rfl:=hq.symm;clear u0 u1 u2 u9;have bY:Hid (Am s=true/\Be s.ps.length F=true):=⟨ae.o,aw⟩;have et:=JH aw;have en:=GF ae.o;replace aw:=zh aw;clear kP ba;have kR1:=zh (kR.o w1 aC.o);have u0:=ad.o.c0;have u1:=ad.o.c1;have u2:=ad.o.c2;have u9:=ad.o.lt
   go_wp2_with fail
   refine kR1.o.mono ?_;rintro e w2 ⟨hr,hb⟩;rw[zE bY.o]at hr;obtain⟨rkb,rfl,ck,b0⟩:=hr;have aI:=aC.t hb;have a4:=zh (ad.o.below hb);replace b0:=zh b0;replace ck:=zh ck;clear hb kR kR1 u0 u1 u2 u9 ad;have kC1:=zh (kC.o w2 aI.o);have u0:=a4.o.c0;have u1:=a4.o.c1;have u2:=a4.o.c2;have u9:=a4.o.lt
   go_wp2_with fail
   refine kC1.o.mono ?_;rintro e w4 ⟨hr,hb⟩;rw[zE ae.o]at hr;obtain⟨Al,cl,l,rfl,bU,bR⟩:=hr;have bM:=aI.t hb;have cE:=zh (a4.o.below hb);have cm:=zh (b0.o.below hb);replace bU:=zh bU;replace bR:=zh bR;clear hb kC kC1 u0 u1 u2 u9 a4 b0 aI;have ed:=@run_makeMap prog;obtain⟨mb,bW⟩:∃x,x=w4.heap.size:=⟨_,rfl⟩;obtain⟨vb,bG⟩:∃x,x=w4.heap.size+1:=⟨_,rfl⟩;obtain⟨w5,bH⟩:∃W,W=((w4.alloc (.map #[] 0)).alloc (.cells #[.map (some w4.heap.size)] 73)):=⟨_,rfl⟩;have di:Hid (Below w4.heap.size w4 w5):=by rw[bH];exact((zI _ w4).alloc (zB _) _).alloc (by simp) _
   have bm:Hid (VMC w5 vb mb s.ps.length (Hr (toN F) 0) 0):=by rw[bH,bG,bW,Qw];exact⟨by have h:=Bk.new (w4.alloc (.map #[] 0)) 73 [.map (some w4.heap.size)];rw[zT]at h;exact h,⟨0,fun _=>none,(MapK.made w4 prog 3 κi).alloc _,zB _,fun _ _=>rfl⟩,by omega⟩
   go_wp2_with fail
   (try rw[<-bH])
   (try rw[<-bG])
   replace bH:=zh bH;replace bG:=zh bG;replace bW:=zh bW;clear ed;have bI:Hid (w.heap.size<w4.heap.size):=cE.o.lt;have an:=zh (fun W (h:Below w4.heap.size w4 W)=>bM.o.trans (h.mono bM.o.size));have aX:Hid (mb=w4.heap.size/\vb=w4.heap.size+1):=⟨bW.o,bG.o⟩
   go_loopw [54] (fun ix wr=>∃(k:Nat),k<=F.length/\ix=.int .i64 (k:Int)/\Hid (Below w4.heap.size w4 wr)/\Hid (VMC wr vb mb s.ps.length (Hr (toN F) k) k)) (fun ix _=>F.length-(intOf ix).toNat)
   case atStart=>exact⟨0,zO _,rfl,di,bm⟩
   case round=>
    clear di bm;obtain⟨k,hk,rfl,am,ai⟩:=hrel;obtain⟨wz,rfl⟩:∃z,z=wr:=⟨_,rfl⟩
    by_cases hkl:k<F.length
    .obtain⟨p,cX,eD,cY⟩:=NE aw.o hkl;obtain⟨fb,fo,rfl,ez,aK⟩:=(hF.o.below (an.o _ am.o)) (by omega);have e1:=aK k hkl;rw[cX]at e1;clear aK;have j0:(0:Int)<=(k:Int):=by omega
     have j1:(k:Int)<(F.length:Int):=by omega
     replace cX:=zh cX;replace cY:=zh cY
     go_wp2_with fail
     refine ef9 vb mb s.ps.length k p (Hr (toN F) k) wz (hE.o.below (an.o _ am.o)) ai.o (by omega) (by omega) ?_;intro _ _ _ we bn aE;have dV:Hid (Below w4.heap.size w4 we):=aE.o.to_below am.o (fun x hx=>by have:=aX.o.1;simp at hx;omega);have cD:Hid (VMC we vb mb s.ps.length (Hr (toN F) (k+1)) (k+1)):=bn.o.congr fun x _=>(Qx cY.o x).symm;clear bn aE am ai;go_wp2;exact⟨⟨k+1,by omega,by go_num,dV,cD⟩,by simp only[intOf];omega⟩
    obtain rfl:k=F.length:=by omega
    have d7:=zh (cE.o.below am.o);have dM:=zh (cm.o.below am.o);have dI:=zh (DJ bU.o am.o);have a9:=zh (an.o _ am.o);clear cE cm bU an
    go_wp2_with fail
    go_step3
    go_wp2_with fail
    have cU:l.length=(Aj s.ps.length (Ad s)).length:=by have:=congrArg List.length bR.o;simpa [baR,CL] using this
    have aS:Hid (VMC wz vb mb s.ps.length (Hr (toN F) F.length) F.length):=ai;have da:Hid (mb<wz.heap.size/\vb<wz.heap.size):=⟨ai.o.lt,ai.o.x.lt⟩;clear ai;have bT:Hid (InN s.ps.length (Ad s)):=by rw[<-BO];exact(BW ae.o).inN
    have d8:(Aj s.ps.length (Ad s)).length<=60:=by have h1:=Fu (n:=s.ps.length) (E:=Ad s);have h2:=Lw bT.o;omega
    have cJ:Hid (∀t (h:t<(Aj s.ps.length (Ad s)).length),((Aj s.ps.length (Ad s))[t]).length<=60/\∀p,p∈(Aj s.ps.length (Ad s))[t]->p<s.ps.length):=fun t h=>⟨by have h1:=C6 _ _ (EZ h) (Fc bT.o h);omega,Fc bT.o h⟩;obtain⟨i0,cP,bL⟩:=Option.map_eq_some_iff.1 FV;simp only[Prod.mk.injEq]at bL;obtain⟨de,df,dg⟩:=bL;replace cP:=zh cP;replace de:=zh de;replace df:=zh df;replace dg:=zh dg;obtain⟨i1,cR,bL⟩:=Option.map_eq_some_iff.1 VD;simp only[Prod.mk.injEq]at bL;obtain⟨db,dc,dd⟩:=bL;replace cR:=zh cR;replace db:=zh db;replace dc:=zh dc;replace dd:=zh dd;have ci:=zh cU;rw[cU];clear cU;have dw:Hid (SyM wz wz.heap.size (.slice none 0 0) []):=SyM.start _ _;have dL:Hid (Value.int .i64 0=.int .i64 ((CF s.ps.length (Ad s) (toN F) 0).flatten.length:Nat)):=rfl
    go_loopw [14,15,65] (fun vx rx ix wr=>∃(t:Nat)(Es:List Ent)(Ay:Option Addr)(cy:Nat),t<=(Aj s.ps.length (Ad s)).length/\ix=.int .i64 (t:Int)/\rx=.int .i64 ((CF s.ps.length (Ad s) (toN F) t).flatten.length:Nat)/\vx=.slice Ay Es.length cy/\Hid (Es.map Ent.u=Dh s.ps.length (Ad s) (toN F) t)/\Hid (SyM wr wz.heap.size (.slice Ay Es.length cy) Es)/\Hid (∀u,u∈CF s.ps.length (Ad s) (toN F) t->u.length<=8)/\Hid (Below wz.heap.size wz wr)) (fun _ _ ix _=>(Aj s.ps.length (Ad s)).length-(intOf ix).toNat)
    case atStart=>exact⟨0,[],none,0,zO _,rfl,dL.o,rfl,rfl,dw,(fun u h=>by cases h),zI _ _⟩
    case round=>
     clear dw dL;obtain⟨t,Es,Ay,cy,ht,rfl,rfl,rfl,bd,al,h8,au⟩:=hrel;obtain⟨wt,rfl⟩:∃z,z=wr:=⟨_,rfl⟩
     by_cases htl:t<(Aj s.ps.length (Ad s)).length
     .obtain ⟨eJ,eK,rfl,el,aK⟩:=(DJ dI.o au.o) (by rw[ci.o];omega);have cq:t<l.length:=by rw[ci.o];exact htl
      obtain⟨e1,aA,_⟩:=aK t cq;obtain⟨_,dJ⟩:=GJ bR.o cq;rw[dJ]at e1 aA;rw[zU]at e1;obtain⟨ce,bS⟩:=cJ.o t htl;have a7:=NI (E:=Ad s) (F:=toN F) htl;have aN:=zh (fun h=>LF (F:=toN F) htl h);have aM:=zh (fun h=>GK (F:=toN F) htl h);have az:=zh (fun h=>LH (F:=toN F) htl h);have aY:=Fy (E:=Ad s) (F:=toN F) htl;have dD:(CF s.ps.length (Ad s) (toN F) (t+1)).flatten.length<=60:=by have h1:=JG (n:=s.ps.length) (E:=Ad s) (F:=toN F) (t:=t+1);have h2:=Iz (F:=toN F) (BW ae.o);rw[BO]at h2;omega
      obtain⟨c,hc⟩:∃c,c=((Aj s.ps.length (Ad s))[t]):=⟨_,rfl⟩;rw[<-hc]at e1 aA ce bS a7 aN aM az aY;have a2:Hid ((unk (Ad s) (toN F) c).length<=8->∀u,u∈CF s.ps.length (Ad s) (toN F) (t+1)->u.length<=8):=fun h u hu=>by rw[aY,yz,xK]at hu;exact hu.elim (h8.o u) (fun e=>by rw[e];exact h)
      replace hc:=zh hc;replace aY:=zh aY;replace aA:=zh aA;replace bS:=zh bS;obtain⟨ah,cF⟩:∃x,x=l[t].1:=⟨_,rfl⟩;obtain⟨ch,cI⟩:∃x,x=l[t].2.1:=⟨_,rfl⟩;rw[<-cF]at e1 aA;rw[<-cI]at e1;replace cF:=zh cF;replace cI:=zh cI;clear aK dJ;obtain⟨R0,ag⟩:∃x,x=(CF s.ps.length (Ad s) (toN F) t).flatten.length:=⟨_,rfl⟩;obtain⟨R1,bi⟩:∃x,x=(CF s.ps.length (Ad s) (toN F) (t+1)).flatten.length:=⟨_,rfl⟩;rw[<-ag,<-bi]at a7;rw[<-bi]at dD;rw[<-ag];have eH:(0:Int)<=(t:Int):=by omega
      have eI:(t:Int)<((Aj s.ps.length (Ad s)).length:Int):=by omega
      obtain⟨xb,bK⟩:∃x,x=wt.heap.size:=⟨_,rfl⟩;obtain⟨wu,bJ⟩:∃W,W=(wt.alloc (.cells #[.slice none 0 0,.slice none 0 0,.slice none 0 0] 79)):=⟨_,rfl⟩;have dk:Hid (Below wt.heap.size wt wu):=by rw[bJ];exact(zI _ wt).alloc (zB _) _
      have dl:Hid (EntB wu wt.heap.size xb none 0 []):=by rw[bJ,bK];exact EntB.start (Bk.new wt _ _)
      have dR:Hid (wt.heap.size<=xb):=wE bK.symm
      go_wp2_with fail
      (try rw[<-bJ])
      (try rw[<-bK])
      replace bJ:=zh bJ;replace bK:=zh bK;replace ag:=zh ag;replace bi:=zh bi;have cH:Hid (c.length<=60):=ce;have aO:Hid (t<(Aj s.ps.length (Ad s)).length):=htl;have b6:=zh (fun W (h:Below wt.heap.size wt W)=>(au.o.trans (h.mono au.o.size):Below wz.heap.size wz W))
      go_loopw [73] (fun jx wr=>∃(i:Nat)(A:Option Addr)(cu:Nat),i<=c.length/\jx=.int .i64 (i:Int)/\Hid (EntB wr wt.heap.size xb A cu (unk (Ad s) (toN F) (c.take i)))/\Hid (Below wt.heap.size wt wr)) (fun jx _=>c.length-(intOf jx).toNat)
      case atStart=>exact⟨0,none,0,zO _,rfl,dl,dk⟩
      case round=>
       clear dl dk;obtain⟨i,A,cu,hi,rfl,af,ar⟩:=hrel;obtain⟨wi,rfl⟩:∃z,z=wr:=⟨_,rfl⟩
       by_cases hil:i<c.length
       .obtain ⟨eu,eC,rfl,em,aK⟩:=(aA.o.below ar.o) (by rw[zU];omega);have e1:=aK i (by rw[zU];exact hil);rw[yA]at e1;have bZ:=bS.o _ (zQ hil);have ax:=LJ (E:=Ad s) (F:=toN F) hil;have b2:(unk (Ad s) (toN F) (c.take i)).length<=60:=zV H6 (by rw[xY];omega);obtain⟨p,hp⟩:∃p,p=c[i]:=⟨_,rfl⟩;rw[<-hp]at e1 bZ ax;replace hp:=zh hp;clear aK;have cn:=zh ((dM.o.below (b6.o _ ar.o)));have r1:=cn.o.cell p bZ;have r9:=cn.o.lt;have j0:(0:Int)<=(i:Int):=by omega
        have j1:(i:Int)<(c.length:Int):=by omega
        have q0:(0:Int)<=(p:Int):=by omega
        have q1:(p:Int)<(s.ps.length:Int):=by omega
        generalize rk (Ad s) (toN F) p=rv at r1 ax
        by_cases hrv:0<rv
        rotate_left
        .have t1:decide (0<rv)=false:=zD hrv;rw[zC hrv,wT]at ax;have bc:Hid (EntB wi wt.heap.size xb A cu (unk (Ad s) (toN F) (c.take (i+1)))):=by rw[ax];exact af.o
         replace ax:=zh ax;replace hrv:=zh hrv;clear af;go_wp2;exact⟨⟨i+1,A,cu,by omega,by go_num,bc,ar⟩,by simp only[intOf];omega⟩
        have t1:decide (0<rv)=true:=zH hrv;rw[zE hrv]at ax;replace hrv:=zh hrv;obtain⟨m,hm⟩:∃m,m=(unk (Ad s) (toN F) (c.take i)).length:=⟨_,rfl⟩;have x0:=af.o.x.c0;have x9:=af.o.x.lt;rw[<-hm]at x0 b2;have bO:Hid (EntB (wi.alloc (.cells #[.int .i64 (p:Int)] 3)) wt.heap.size xb A cu (unk (Ad s) (toN F) (c.take i))):=af.o.below ((zI _ wi).alloc (zB _) _);have dX:Hid (Below wt.heap.size wt (wi.alloc (.cells #[.int .i64 (p:Int)] 3))):=ar.o.alloc ar.o.size _;have had:Hid (∀j u,[Value.int .i64 (p:Int)][j]? = some u->(wi.alloc (.cells #[.int .i64 (p:Int)] 3)).cell? (Addr.add ⟨wi.heap.size,0,none⟩ j)=some u):=Ci.BA wi _ 3;have dN:Hid ((wi.alloc (.cells #[.int .i64 (p:Int)] 3)).ownsRow wt.heap.size 3 1 (.slice A m cu) m (Bz (unk (Ad s) (toN F) (c.take i)))):=by have h:=bO.o.o;rw[<-hm]at h;exact h
        have dB:Hid (wt.heap.size<=(wi.alloc (.cells #[.int .i64 (p:Int)] 3)).heap.size):=dX.o.size;have cr:=zh b2
        have ef:Hid (∀v' w',w'.ownsRow wt.heap.size 3 1 v' (m+1) (Bz (unk (Ad s) (toN F) (c.take i))++[.int .i64 (p:Int)])->(wi.alloc (.cells #[.int .i64 (p:Int)] 3)).grownBy w' (Value.slice A m cu).ownBlock->(v'.ownBlock=(Value.slice A m cu).ownBlock\/v'.ownBlock=some (wi.alloc (.cells #[.int .i64 (p:Int)] 3)).heap.size)->∃A' c',v'=.slice A' (m+1) c'/\EntB (w'.setCell ⟨xb,0,none⟩ v') wt.heap.size xb A' c' (unk (Ad s) (toN F) (c.take (i+1)))/\Bk w' xb 79 [.slice A m cu,.slice none 0 0,.slice none 0 0]/\Below wt.heap.size wt w'):=fun v' w' h1 h2 h3=>by
         rw[hm]at h1 h2 h3;obtain⟨A',c',q1,q2,q3⟩:=bO.o.step h1 h2 h3;rw[ax,hm];refine⟨A',c',q1,q2,q3,?_⟩;exact((Kp.refl [] wi).alloc (.cells #[.int .i64 (p:Int)] 3)).to_below ar.o (fun x hx=>by simp at hx) |>.trans ⟨h2.os,h2.tape,h2.output,h2.size,fun k hk=>h2.block k (zL hk dB.o) fun e=>by have:=(bO.o.o.lt k e.symm).1;omega⟩
        replace hm:=zh hm;replace ax:=zh ax;clear af bO
        go_wp2_with (at_builtin;refine Ci.wpList_append_new _ rfl _ _ 26 rfl wt.heap.size 3 i0 (.int .i64 0) 1 8 underlying26 cP.o de.o df.o dg.o rfl (by decide) (.slice A m cu) m (Bz (unk (Ad s) (toN F) (c.take i))) rfl dN.o ⟨wi.heap.size,0,none⟩ 1 1 [.int .i64 (p:Int)] rfl rfl had.o (Ci.AQ _ rfl) (by decide) (by have:=cr.o;unfold maxLen;omega) (by have:=cr.o;omega) dB.o ?_;intro v' w' ho hg hn;obtain⟨A',c',c9,bc,b3,aI⟩:=ef.o v' w' ho hg hn;replace bc:=zh bc;replace aI:=zh aI;have z0:=b3.frozen 0;have z1:=b3.c0;have z9:=b3.lt;clear ho hg hn b3 x0 x9;subst c9)
        exact⟨⟨i+1,A',c',by omega,by go_num,bc,((Kp.refl [xb] _).set _ (.inl (by simp))).to_below aI.o (fun x hx=>by have:=dR.o;simp at hx;omega)⟩,by simp only[intOf];omega⟩
       obtain rfl:i=c.length:=by omega
       rw[yJ]at af;have b2:(unk (Ad s) (toN F) c).length<=60:=zV H6 cH.o;have b7:=zh (b6.o _ ar.o);have b9:=zh (al.o.below ar.o);obtain⟨u,hu⟩:∃u,u=unk (Ad s) (toN F) c:=⟨_,rfl⟩;rw[<-hu]at af b2 a7 a2 aN aM az;replace hu:=zh hu;have x0:=af.o.x.c0;have x9:=af.o.x.lt;have bv:Hid (Value.int .i64 ((R0:Int)+(u.length:Int))=.int .i64 ((CF s.ps.length (Ad s) (toN F) (t+1)).flatten.length:Nat)):=by rw[<-bi.o,a7];go_num
       have ek:R0+u.length<=60:=by omega
       replace a7:=zh a7
       by_cases bC:u=[]
       .subst bC;have be:Hid (Es.map Ent.u=Dh s.ps.length (Ad s) (toN F) (t+1)):=by rw[aN.o rfl];exact bd.o
        have ct:=zh (a2.o (by simp));simp only[yc]at x0 bv;clear aN aM az a2 af;go_wp2;exact⟨⟨t+1,Es,Ay,cy,aO.o,by go_num,bv.o,rfl,be,b9,ct,b7⟩,by have:=aO.o;simp only[intOf];omega⟩
       have eF:0<u.length:=by cases u with|nil=>exact absurd rfl bC|cons _ _=>simp
       have m2:((u.length:Int)==0)=false:=by rw[zJ];omega
       have dK:=zh (aM.o bC);replace bC:=zh bC;clear aN aM;have aQ:Hid (Below w.heap.size w wi):=a9.o.trans (b7.o.mono a9.o.size)
       by_cases hu8:8<u.length
       .have m3:decide (8<(u.length:Int))=true:=zH (by omega);have bp:=zh (az.o hu8);replace hu8:=zh hu8;clear az a2 af;go_wp2;rw[vH];go_ret2;exact bh.o _ _ bY.o bp.o rfl aQ.o
       have m3:decide (8<(u.length:Int))=false:=zD (by omega);have ct:=zh (a2.o (by omega));have cL:Es.length<=60:=by have h1:=congrArg List.length bd.o;have h2:=LG (n:=s.ps.length) (E:=Ad s) (F:=toN F) (t:=t);rw[zU]at h1;have:=aO.o;omega
       obtain⟨q,hq⟩:∃q,q=Es.length:=⟨_,rfl⟩;have bQ:Hid (Below wt.heap.size wt (wi.alloc (.cells #[.pointer (some ⟨xb,0,none⟩)] 76))):=ar.o.alloc ar.o.size _;have bt:Hid ((wi.alloc (.cells #[.pointer (some ⟨xb,0,none⟩)] 76)).ownsRow wz.heap.size 76 1 (.slice Ay q cy) q (Es.map Ent.pt)):=by rw[hq];exact AK al.o.row bQ.o
       have dz:Hid (∀j u,[Value.pointer (some ⟨xb,0,none⟩)][j]? = some u->(wi.alloc (.cells #[.pointer (some ⟨xb,0,none⟩)] 76)).cell? (Addr.add ⟨wi.heap.size,0,none⟩ j)=some u):=Ci.BA wi _ 76;have cd:Hid (wz.heap.size<=(wi.alloc (.cells #[.pointer (some ⟨xb,0,none⟩)] 76)).heap.size):=zV au.o.size bQ.o.size
       have dP:Hid (∀v' w',w'.ownsRow wz.heap.size 76 1 v' (q+1) (Es.map Ent.pt++[.pointer (some ⟨xb,0,none⟩)])->(wi.alloc (.cells #[.pointer (some ⟨xb,0,none⟩)] 76)).grownBy w' (Value.slice Ay q cy).ownBlock->(v'.ownBlock=(Value.slice Ay q cy).ownBlock\/v'.ownBlock=some (wi.alloc (.cells #[.pointer (some ⟨xb,0,none⟩)] 76)).heap.size)->∃Ay' cy',v'=.slice Ay' (q+1) cy'/\SyM w' wz.heap.size (.slice Ay' (Es++[(⟨xb,A,cu,u⟩:Ent)]).length cy') (Es++[(⟨xb,A,cu,u⟩:Ent)])/\Below wz.heap.size wz w'):=fun v' w' h1 h2 h3=>by
        obtain⟨Ay',cy',rfl⟩:=Ci.Cu h1;refine⟨Ay',cy',rfl,?_,?_⟩
        .have hl:(Es++[(⟨xb,A,cu,u⟩:Ent)]).length=q+1:=by rw[zY,hq];rfl
         rw[hl];have cx:=af.o.below ((zI _ wi).alloc (zB _) (.cells #[.pointer (some ⟨xb,0,none⟩)] 76));rw[hq]at h1 h2 h3 ⊢;refine SyM.add (e:=⟨xb,A,cu,u⟩) al.o au.o.size bQ.o cx.x cx.inInt dR.o (fun b o e=>cx.blk b o e) ?_ h2 (h3.imp id fun e=>⟨_,e,zB _⟩);exact h1
        exact au.o.trans (bQ.o.mono au.o.size) |>.trans ⟨h2.os,h2.tape,h2.output,h2.size,fun k hk=>h2.block k (zL hk cd.o) fun e=>by have:=(bt.o.lt k e.symm).1;omega⟩
       have be:Hid ((Es++[(⟨xb,A,cu,u⟩:Ent)]).map Ent.u=Dh s.ps.length (Ad s) (toN F) (t+1)):=by rw[dK.o,yf,bd.o];rfl
       have ee:Hid ((Es++[(⟨xb,A,cu,u⟩:Ent)]).length=q+1):=by rw[zY,hq];rfl
       have cg:Hid (q<=60):=by rw[hq];exact cL
       rw[<-hq];replace hq:=zh hq;replace cL:=zh cL;clear dK az a2 af b9
       go_wp2_with (at_builtin;refine Ci.wpList_append_new _ rfl _ _ 75 rfl wz.heap.size 76 i1 (.pointer none) 1 8 underlying75 cR.o db.o dc.o dd.o rfl (by decide) (.slice Ay q cy) q (Es.map Ent.pt) rfl bt.o ⟨wi.heap.size,0,none⟩ 1 1 [.pointer (some ⟨xb,0,none⟩)] rfl rfl dz.o (Ci.AQ _ rfl) (by decide) (by have:=cg.o;unfold maxLen;omega) (by have:=cg.o;omega) cd.o ?_;intro v' w' ho hg hn;obtain⟨Ay',cy',c9,cB,cw⟩:=dP.o v' w' ho hg hn;replace cB:=zh cB;replace cw:=zh cw;clear ho hg hn x0 x9;subst c9)
       exact⟨⟨t+1,Es++[(⟨xb,A,cu,u⟩:Ent)],Ay',cy',aO.o,by go_num,bv.o,by rw[ee.o],be,cB,ct,cw⟩,by have:=aO.o;simp only[intOf];omega⟩
     obtain rfl:t=(Aj s.ps.length (Ad s)).length:=by omega
     have aQ:Hid (Below w.heap.size w wt):=a9.o.trans (au.o.mono a9.o.size);have aU:Hid (Es.map Ent.u=Df s.ps.length (Ad s) (toN F)):=bd.o.trans LE;obtain⟨R0,ag⟩:∃x,x=(CF s.ps.length (Ad s) (toN F) (Aj s.ps.length (Ad s)).length).flatten.length:=⟨_,rfl⟩;rw[<-ag];have ej:R0<=60:=by have h1:=JG (n:=s.ps.length) (E:=Ad s) (F:=toN F) (t:=(Aj s.ps.length (Ad s)).length);have h2:=Iz (F:=toN F) (BW ae.o);rw[BO]at h2;omega
     by_cases h16:16<R0
     .have m3:decide (16<(R0:Int))=true:=zH (by omega);have bp:=zh (LI (n:=s.ps.length) (E:=Ad s) (F:=toN F) (by rw[<-ag];exact h16));replace h16:=zh h16;replace ag:=zh ag;go_wp2;rw[vH];go_ret2;exact bh.o _ _ bY.o bp.o rfl aQ.o
     have m3:decide (16<(R0:Int))=false:=zD (by omega);have dC:=zh (Pa (n:=s.ps.length) (E:=Ad s) (F:=toN F) (by rw[<-ag];omega) h8.o);have bz:(Df s.ps.length (Ad s) (toN F)).flatten.length<=16:=by unfold Df;rw[DS,<-DI,<-ag];omega
     replace bz:=zh bz;have ei:Es.length<=60:=by have h1:=congrArg List.length bd.o;have h2:=LG (n:=s.ps.length) (E:=Ad s) (F:=toN F) (t:=(Aj s.ps.length (Ad s)).length);rw[zU]at h1;omega
     replace h16:=zh h16;replace ag:=zh ag
     go_wp2_with fail
     have aR:=zh (BW ae.o);have bj:=Hg (F:=toN F) (BW ae.o);rw[BO,<-aU.o]at bj;have du:=zh bj;clear bj;have ao:(Es.map Ent.u).flatten.length<=16:=by rw[aU.o];exact bz.o
     replace ao:=zh ao;have dx:=aS.o.below au.o;have cz:F.length=(toN F).length:=by simp[toN]
     have aV:VMC wt vb mb s.ps.length (Dn (Ai s.cap) (toN F) (Es.map Ent.u) 0) (F.length+((Es.map Ent.u).take 0).flatten.length):=by have h:=dx.congr (val':=Dn (Ai s.cap) (toN F) (Es.map Ent.u) 0) (fun p _=>by rw[<-SZ (L:=Ai s.cap) (us:=(Es.map Ent.u)),cz]);simpa using h
     replace aV:=zh aV;clear dx;replace cz:=zh cz;have dy:=zh (d7.o.below au.o);have dt:Hid (Kp (mb::(Es.take 0).map Ent.x) wt wt):=Kp.refl _ _
     go_loopw [123] (fun ix wr=>∃(k:Nat),k<=Es.length/\ix=.int .i64 (k:Int)/\Hid (Kp (mb::(Es.take k).map Ent.x) wt wr)/\Hid (VMC wr vb mb s.ps.length (Dn (Ai s.cap) (toN F) (Es.map Ent.u) k) (F.length+((Es.map Ent.u).take k).flatten.length))) (fun ix _=>Es.length-(intOf ix).toNat)
     case atStart=>exact⟨0,zO _,rfl,dt,aV⟩
     case round=>
      clear dt aV;obtain⟨k,hk,rfl,ak,ai⟩:=hrel;obtain⟨aa,rfl⟩:∃z,z=wr:=⟨_,rfl⟩
      by_cases hkl:k<Es.length
      .obtain ⟨e,he⟩:∃e,e=Es[k]:=⟨_,rfl⟩;have aB:e∈Es:=by rw[he];exact zQ hkl
       obtain⟨cN,cK,ey⟩:=al.o.ent e aB;have bX:=U2 al.o.nd hkl;rw[<-he]at bX;have a8:(Es.map Ent.u)[k]'(by rw[zU];exact hkl)=e.u:=by rw[yA,<-he]
       have bF:=Qz bT.o (u:=e.u) (by rw[<-aU.o];exact List.mem_map_of_mem aB);have bE:=h8.o _ bF.2;have bs:=I5 du.o (k:=k) (by rw[zU];exact hkl);rw[a8]at bs;obtain⟨D,hD,aL⟩:=JF aR.o du.o ao.o k;have aq:=aL.vals hD;have d9:=JE (us:=(Es.map Ent.u)) (k:=k) (by rw[zU];exact hkl);rw[a8]at d9;have eE:=ao.o;have aH:e.x≠mb/\e.x≠vb:=by have:=da.o;omega
       have br:e.x∉mb::(Es.take k).map Ent.x:=fun h=>(List.mem_cons.1 h).elim aH.1 bX;have ew:Hid (Below w.heap.size w wt):=aQ;have a1:Hid (∀x,x∈mb::(Es.take k).map Ent.x->w4.heap.size<=x):=fun x hx=>(List.mem_cons.1 hx).elim (fun h=>by rw[h];exact wE aX.o.1.symm) (fun h=>by obtain⟨e2,aG,rfl⟩:=List.mem_map.1 h;have h1:=(al.o.ent e2 (yH aG)).2.2;have h2:=am.o.size;omega);have aD:Hid (Below w.heap.size w aa):=ak.o.to_below aQ.o (fun x hx=>by have h1:=a1.o x hx;have h2:=bM.o.size;omega);have dS:Hid (Bk aa e.x 79 [.slice e.A e.u.length e.c,.slice none 0 0,.slice none 0 0]):=cN.kp ak.o br;have eG:w.heap.size<=e.x:=by have h1:=aQ.o.size;have h2:=a9.o.size;omega
       have bD:Hid (∀b o,e.A=some ⟨b,o,none⟩->b∉mb::(Es.take k).map Ent.x/\b≠e.x/\b≠mb):=fun b o h=>by
        obtain⟨h1,h2,h3⟩:=al.o.blk e aB b o h;have hb:b≠mb:=by have:=da.o.1;omega
        refine⟨fun hm=>(List.mem_cons.1 hm).elim hb fun h=>?_,h3 e aB,hb⟩;obtain⟨e2,aG,rfl⟩:=List.mem_map.1 h;exact h3 e2 (yH aG) rfl
       have cT:Hid (InInt aa e.A (e.u.map fun(q:Nat)=>(q:Int))):=inInt_kp cK ak.o (fun b o h=>(bD.o b o h).1);have aF:Hid (Bk aa w.heap.size 25 (SC s Ap Ac Av cp cc cv)):=dy.o.kp ak.o (fun h=>(List.mem_cons.1 h).elim (fun h=>by have h1:=aX.o.1;have h2:=bI.o;omega) (fun h=>by obtain⟨e2,aG,q⟩:=List.mem_map.1 h;have h1:=(al.o.ent e2 (yH aG)).2.2;have h2:=bI.o;have h3:=am.o.size;omega));obtain⟨val,a0⟩:∃v,v=Dn (Ai s.cap) (toN F) (Es.map Ent.u) k:=⟨_,rfl⟩;rw[<-a0]at ai aL aq;obtain⟨C0,bN⟩:∃c,c=F.length+((Es.map Ent.u).take k).flatten.length:=⟨_,rfl⟩;rw[<-bN]at ai;have es:C0+e.u.length<=100000:=by omega
       have kB:=Qq (D:=D) s Ap Ac Av e.A cp cc cv e.c e.u val e.x vb mb aa ae.o cG bE bs.nodup bF.1 aq dS.o (fun W h=>hE.o.below (h.to_below aD.o (fun x hx=>by simp at hx;omega))) (fun W h=>(cZ.o W (h.to_below aD.o (fun x hx=>by simp at hx;omega))).cap) (fun W h=>inInt_kp cT.o h (fun b o q=>by have:=(bD.o b o q).2.1;simpa using this)) (fun W h=>(ai.o.kp h (by have:=aH.2;simp;omega) (by have:=aH.1;simp;omega)).vm (by omega));obtain⟨gy,er,ea,eA,eB,_,dE⟩:=Nt.Cu (OS al.o.row ak.o (fun b q hm=>(List.mem_cons.1 hm).elim (fun h=>by have h1:=(al.o.row.lt b q).1;have h2:=da.o.1;omega) (fun h=>by obtain⟨e2,aG,h3⟩:=List.mem_map.1 h;exact(al.o.rb b q e2 (yH aG)).1 h3.symm))) (by omega:0<Es.length);injection ea with q1 _ q2;subst q1;subst q2;have e1:aa.cell? ⟨gy,k,none⟩=some (.pointer (some ⟨e.x,0,none⟩)):=dE k _ (by rw[List.getElem?_map,yR hkl,<-he];rfl);have j0:(0:Int)<=(k:Int):=by omega
       have j1:(k:Int)<(Es.length:Int):=by omega
       have cV:Hid (((Es.map Ent.u).take k).flatten.length+e.u.length<=16):=by unfold Hid;omega
       have aW:=zh hkl;replace kB:=zh kB;replace aL:=zh aL;replace bs:=zh bs;replace aq:=zh aq;replace bF:=zh bF;replace he:=zh he;replace a8:=zh a8;replace a0:=zh a0;replace bN:=zh bN;replace aB:=zh aB;replace cN:=zh cN;replace cK:=zh cK;replace bX:=zh bX;replace br:=zh br;replace aH:=zh aH;replace hD:=zh hD;clear dE;have u0:=aF.o.c0;have u1:=aF.o.c1;have u2:=aF.o.c2;have u9:=aF.o.lt
       go_wp2_with fail
       refine kB.o.q fun W5 ⟨w3,dG,dA⟩=>?_;obtain⟨Aa,Ab,ca,cb,la,dH,ay,eb,co,bu⟩:=dA.slv aR.o aq.o bE;have bg:Hid (Kp [e.x] aa W5):=kp_trans dG dH (fun y hy=>.inl hy);replace ay:=zh ay;clear dG dH dA kB u0 u1 u2 u9 e1;have aJ:Hid (Below w.heap.size w W5):=bg.o.to_below aD.o (fun x hx=>by simp at hx;omega);have bm:=zh (ai.o.kp bg.o (by have:=aH.o.2;simp;omega) (by have:=aH.o.1;simp;omega));have dr:=zh (inInt_kp cT.o bg.o (fun b o q=>by have:=(bD.o b o q).2.1;simpa using this));have kV:Hid (∀W,Below W5.heap.size W5 W->Calls prog 45 #[.slice Aa e.u.length ca,.slice Ab e.u.length cb] W fun e1 w1=>(∃p c,e1=.returned (.tuple #[.slice p e.u.length c,.int .i64 0])/\InRow w1 p (B5 e.u.length fun i=>Ct SQ (Ai s.cap) e.u val (e.u.getD i 0)))/\Below W.heap.size W w1):=fun W h=>Uu aR.o aL.o bs.o cV.o bE (hE.o.below (aJ.o.trans (h.mono aJ.o.size))) eb (co.below h) bu;have bb:Hid (Below W5.heap.size W5 W5.drew):=(zI _ _).drew;have cA:Hid (∀W,Below W5.heap.size W5 W->W.cell? ⟨e.x,1,none⟩=some (.slice Aa e.u.length ca)/\W.cell? ⟨e.x,2,none⟩=some (.slice Ab e.u.length cb)):=fun W h=>⟨(ay.o.below h).c1,(ay.o.below h).c2⟩;clear co bu dS cT ai;have x1:=ay.o.c1;have x2:=ay.o.c2;have x9:=ay.o.lt
       go_wp2_with fail
       go_region_held3 (fun W=>W.cell? ⟨e.x,1,none⟩=some (.slice Aa e.u.length ca)/\W.cell? ⟨e.x,2,none⟩=some (.slice Ab e.u.length cb)) (first|(with_reducible exact cA.o _ bb.o)|(with_reducible exact cA.o _ a5.o)|go_keep) (first|(go_at_call 45;refine(kV.o _ bb.o).mono ?_;rintro ex w8 ⟨⟨pS,cS,rfl,bB⟩,hb⟩;have a5:=bb.t hb;replace bB:=zh bB;clear hb))
       have cC:Hid (VMC w8 vb mb s.ps.length (Fb (Ai s.cap) e.u val 0) (C0+0)):=by rw[LC];exact bm.o.below a5.o
       have d6:Hid (∀b o x,w8.cell? ⟨b,o,none⟩=some x->b≠mb):=fun b o x h=>cC.o.off h;have eg:=zh (ay.o.below a5.o);have dY:=zh (dr.o.below a5.o);have eh:Hid (Below w.heap.size w w8):=aJ.o.trans (a5.o.mono aJ.o.size);have dZ:Hid (Kp [e.x] aa w8):=bg.o.below a5.o;have ep:=zh ay.o.lt;clear bm dr ay cA bb kV bg aJ x1 x2 x9;have ds:Hid (Kp [mb] w8 w8):=Kp.refl _ _
       go_wp2_with fail
       go_loopw [145] (fun jx wr=>∃(i:Nat),i<=e.u.length/\jx=.int .i64 (i:Int)/\Hid (Kp [mb] w8 wr)/\Hid (VMC wr vb mb s.ps.length (Fb (Ai s.cap) e.u val i) (C0+i))) (fun jx _=>e.u.length-(intOf jx).toNat)
       case atStart=>exact⟨0,zO _,rfl,ds,cC⟩
       case round=>
        clear ds cC;obtain⟨i,hi,rfl,av,bo⟩:=hrel;obtain⟨aT,rfl⟩:∃z,z=wr:=⟨_,rfl⟩
        by_cases hil:i<e.u.length
        .obtain⟨sb,so,d4,b1,dO⟩:=bB.o (by rw[Aq];omega);subst d4;obtain⟨t1,t2,t3⟩:=dO i (by rw[Aq];exact hil);rw[Ej]at t1 t2 t3;rw[De hil]at t1 t2 t3;have bA:sb≠mb:=d6.o sb _ _ t1;have t1:=(zR (a:=⟨sb,so+i*3,none⟩) (av.o.block sb b1 (by simpa using bA))).trans t1;have t2:=(zR (a:=⟨sb,so+i*3+1,none⟩) (av.o.block sb b1 (by simpa using bA))).trans t2;have t3:=(zR (a:=⟨sb,so+i*3+2,none⟩) (av.o.block sb b1 (by simpa using bA))).trans t3;have t9:sb<aT.heap.size:=zL b1 av.o.size;obtain⟨ub,uo,bP,aZ,dQ⟩:=(inInt_kp dY.o av.o (fun b o q=>by have:=(bD.o b o q).2.2;simpa using this)) (by rw[zU];omega);have c8:ub≠mb:=(bD.o ub uo bP).2.2;have e1:=dQ i (by rw[zU];exact hil);rw[yA]at e1;have bZ:=bF.o.1 _ (zQ hil);have bq:=LD (L:=Ai s.cap) (val:=val) hil;obtain⟨p,hp⟩:∃p,p=e.u[i]:=⟨_,rfl⟩;rw[<-hp]at e1 bZ bq t1 t2 t3;replace hp:=zh hp;clear dQ dO;replace bq:=zh bq;replace bP:=zh bP;replace bA:=zh bA;replace c8:=zh c8;replace e1:=zh e1;replace aZ:=zh aZ;have j0:(0:Int)<=(i:Int):=by omega
         have j1:(i:Int)<(e.u.length:Int):=by omega
         obtain⟨q,hq⟩:∃q,q=Ct SQ (Ai s.cap) e.u val p:=⟨_,rfl⟩;rw[<-hq]at t1 t2 t3 bq;replace hq:=zh hq
         go_wp2_with fail
         have b4:=eg.o.kp av.o (by have:=aH.o.1;simpa using this);rw[bP.o]at b4;refine WX vb mb s.ps.length (C0+i) p e.x ub uo e.u.length e.c i aT.heap.size q (Fb (Ai s.cap) e.u val i) (aT.alloc (.cells #[.bool (rq (q)).1,.string (rq (q)).2.1,.string (rq (q)).2.2] 34)) (bo.o.below ((zI _ _).alloc (zB _) _)) (by omega) (by omega) hil ((b4.alloc _).c0) ((b4.alloc _).lt) ((zR (a:=⟨ub,uo+i,none⟩) (wv aT _ aZ.o)).trans e1.o) (Nat.lt_trans aZ.o (by simp)) (Bk.new aT _ _) aH.o.1 c8.o (by have:=bo.o.lt;omega) ?_;intro _ _ _ _ _ _ _ _ _ we bn aE;have d0:Hid (Kp [mb] w8 we):=kp_trans (av.o.alloc _) aE.o (fun y hy=>.inl hy);have cD:Hid (VMC we vb mb s.ps.length (Fb (Ai s.cap) e.u val (i+1)) (C0+(i+1))):=bn.o.congr fun x _=>(bq.o x).symm;clear bn aE av bo t1 t2 t3 t9 b4;go_wp2;exact⟨⟨i+1,by omega,by go_num,d0,cD⟩,by simp only[intOf];omega⟩
        obtain rfl:i=e.u.length:=by omega
        have d1:Hid (Kp (mb::(Es.take (k+1)).map Ent.x) wt aT):=by
         have hm:∀y,y∈(Es.take (k+1)).map Ent.x<->y∈(Es.take k).map Ent.x\/y=e.x:=fun y=>by rw[zS aW.o,<-he.o,yf,yz];simp
         have h1:Kp (mb::(Es.take (k+1)).map Ent.x) wt aa:=⟨ak.o.os,ak.o.tape,ak.o.output,ak.o.size,fun b hb hx=>ak.o.block b hb fun h=>hx ((List.mem_cons.1 h).elim (fun h=>List.mem_cons.2 (.inl h)) (fun h=>List.mem_cons.2 (.inr ((hm b).2 (.inl h)))))⟩;exact kp_trans (kp_trans h1 dZ.o (fun y hy=>.inl (List.mem_cons.2 (.inr ((hm y).2 (.inr (by simpa using hy))))))) av.o (fun y hy=>.inl (List.mem_cons.2 (.inl (by simpa using hy))))
        have d5:Hid (VMC aT vb mb s.ps.length (Dn (Ai s.cap) (toN F) (Es.map Ent.u) (k+1)) (F.length+((Es.map Ent.u).take (k+1)).flatten.length)):=by
         have h:=bo.o;rw[OZ]at h;have e1:Dn (Ai s.cap) (toN F) (Es.map Ent.u) (k+1)=Ct SQ (Ai s.cap) e.u val:=by rw[NH (by rw[zU];exact aW.o),a8.o,<-a0.o]
         have e2:F.length+((Es.map Ent.u).take (k+1)).flatten.length=C0+e.u.length:=by rw[bN.o,zS (by rw[zU];exact aW.o:k<(Es.map Ent.u).length),a8.o,xV,zY,List.flatten_singleton,Nat.add_assoc]
         rw[e1,e2];exact h
        have dF:Hid (k+1<=Es.length):=aW.o;clear av bo;go_wp2;exact⟨⟨k+1,dF.o,by go_num,d1,d5⟩,by have:=dF.o;simp only[intOf];omega⟩
      obtain rfl:k=Es.length:=by omega
      have cj:((Es.map Ent.u).take Es.length).flatten.length<=16:=by have h:=congrArg (fun l=>(List.flatten l).length) (yt Es.length (Es.map Ent.u));simp only[xV,zY]at h;have:=ao.o;omega
      have aE:Dn (Ai s.cap) (toN F) (Es.map Ent.u) Es.length=Hq SQ s.ps.length (Ai s.cap) (toN F):=by unfold Dn Hq;rw[BO,<-aU.o,yK (by rw[zU];exact zB _)]
      have aS:=ai.o.vm (by omega);rw[aE]at aS;replace aS:=zh aS;replace aE:=zh aE;replace cj:=zh cj;have a1:Hid (∀x,x∈mb::(Es.take Es.length).map Ent.x->w4.heap.size<=x):=fun x hx=>(List.mem_cons.1 hx).elim (fun h=>by rw[h];exact wE aX.o.1.symm) (fun h=>by obtain⟨e2,aG,rfl⟩:=List.mem_map.1 h;have h1:=(al.o.ent e2 (yH aG)).2.2;have h2:=am.o.size;omega);have aD:Hid (Below w.heap.size w aa):=ak.o.to_below aQ.o (fun x hx=>by have h1:=a1.o x hx;have h2:=bM.o.size;omega);have aF:Hid (Bk aa w.heap.size 25 (SC s Ap Ac Av cp cc cv)):=dy.o.kp ak.o (fun h=>by have h1:=a1.o _ h;have h2:=bI.o;omega);obtain⟨ev,cM⟩:∃ev,ev=Hq SQ s.ps.length (Ai s.cap) (toN F):=⟨_,rfl⟩;rw[<-cM]at aS bf;replace cM:=zh cM;have ec:=DA 27 underlying27 s.ps.length (by omega);have kva:Hid (∀W (p:Nat),p<s.ps.length->Below aa.heap.size aa W->Calls prog 43 #[.int .i64 (p:Int),.pointer (some ⟨vb,0,none⟩)] W fun e w'=>e=.returned (.agg #[.bool (rq (ev p)).1,.string (rq (ev p)).2.1,.string (rq (ev p)).2.2])/\Below W.heap.size W w'):=fun W p hp h=>Jz s.ps.length ev vb mb p hp (by omega) W (hE.o.below (aD.o.trans (h.mono aD.o.size))) (aS.o.below h);obtain⟨ob,a6⟩:∃x,x=aa.heap.size:=⟨_,rfl⟩;obtain⟨dT,aP⟩:∃W,W=(aa.alloc (.cells (AN s.ps.length fun _=>zraw).toArray 34)):=⟨_,rfl⟩;have b5:Hid (Below aa.heap.size aa dT):=by rw[aP];exact(zI _ aa).alloc (zB _) _
      have b8:Hid (RowB dT ob s.ps.length fun j=>if j<0 then rq (ev j) else zraw):=by rw[aP,a6];refine RowB.congr (r:=fun _=>zraw) (zo aa _) fun j _=>?_;rw[zC (zi _)]
      have u0:=aF.o.c0;have u1:=aF.o.c1;have u2:=aF.o.c2;have u9:=aF.o.lt
      go_wp2_with fail
      (try rw[<-aP])
      (try rw[<-a6])
      replace aP:=zh aP;replace a6:=zh a6;clear ec u0 u1 u2 u9
      go_loopw [167] (fun ix wr=>∃(k:Nat),k<=s.ps.length/\ix=.int .i64 (k:Int)/\Hid (Below aa.heap.size aa wr)/\Hid (RowB wr ob s.ps.length fun j=>if j<k then rq (ev j) else zraw)) (fun ix _=>s.ps.length-(intOf ix).toNat)
      case atStart=>exact⟨0,zO _,rfl,b5,b8⟩
      case round=>
       clear b5 b8;obtain⟨k,hk,rfl,an,bk⟩:=hrel;obtain⟨dh,rfl⟩:∃z,z=wr:=⟨_,rfl⟩
       by_cases hkm:k<s.ps.length
       .have k0:=zh (kva.o dh k hkm an.o);have q0:(0:Int)<=(k:Int):=by omega
        have q1:(k:Int)<(s.ps.length:Int):=by omega
        go_wp2_with fail
        refine k0.o.q fun w6 hb=>?_;have dj:Hid (Below aa.heap.size aa w6):=an.o.trans (hb.mono an.o.size);have a3:Hid (RowB w6 ob s.ps.length fun j=>if j<k then rq (ev j) else zraw):=bk.o.below hb bk.o.lt;clear hb k0 an bk;obtain⟨r1,r2,r3⟩:=a3.o.cell hkm;have f1:=a3.o.frozen (k*3);have f2:=a3.o.frozen (k*3+1);have f3:=a3.o.frozen (k*3+2);have r9:=a3.o.lt;have bx:Hid (aa.heap.size<=ob):=wE a6.o.symm;have dU:Hid (Below aa.heap.size aa (((w6.setCell ⟨ob,k*3,none⟩ (.bool (rq (ev k)).1)).setCell ⟨ob,k*3+1,none⟩ (.string (rq (ev k)).2.1)).setCell ⟨ob,k*3+2,none⟩ (.string (rq (ev k)).2.2))):=((dj.o.setCell (p:=⟨ob,k*3,none⟩) bx.o _).setCell (p:=⟨ob,k*3+1,none⟩) bx.o _).setCell (p:=⟨ob,k*3+2,none⟩) bx.o _;have d2:Hid (RowB (((w6.setCell ⟨ob,k*3,none⟩ (.bool (rq (ev k)).1)).setCell ⟨ob,k*3+1,none⟩ (.string (rq (ev k)).2.1)).setCell ⟨ob,k*3+2,none⟩ (.string (rq (ev k)).2.2)) ob s.ps.length fun j=>if j<k+1 then rq (ev j) else zraw):=(a3.o.set hkm (rq (ev k))).congr fun j _=>by by_cases c:j=k;(· rw[zE c,zE (by omega),c]);(· rw[zC c];by_cases d:j<k;(· rw[zE d,zE (by omega)]);(· rw[zC d,zC (by omega)]))
        generalize (if k<k then rq (ev k) else zraw)=rz at r1 r2 r3;go_wp2;exact⟨⟨k+1,by omega,by go_num,dU,d2⟩,by simp only[intOf];omega⟩
       obtain rfl:k=s.ps.length:=by omega
       have d3:Hid (RowB dh ob s.ps.length fun j=>rq (ev j)):=bk.o.congr fun j hj=>by rw[zE hj]
       have dW:Hid (Below w.heap.size w dh):=aD.o.trans (an.o.mono aD.o.size);have bx:Hid (w.heap.size<=ob):=by rw[a6.o];exact aD.o.size
       clear bk an;go_wp2;rw[vH];go_ret2;exact bf.o _ _ ob bY.o dC.o rfl bx.o d3.o dW.o
end Sh
end
section
namespace Sh
open Nt Ci
def hL1:List Lp:=[(0,3,1/2),(1,0,1/2)]
def hL2:List Lp:=[(0,1,1/2),(0,3,1/2),(1,0,1/2)]
def hL3:List Lp:=[(0,1,1),(1,0,1)]
def hL4:List Lp:=[(0,3,1),(2,0,1/2),(2,1,1/2)]
theorem Ln{e:Nat->Rat}(h:Eff 4 hL1 [3] e):e 0=6/12/\e 1=3/12/\e 2=0/\e 3=1:=by
 have h3:=h.listed 3 (by simp);have h0:=h.sum 0 (by omega) (by simp);have h1:=h.sum 1 (by omega) (by simp);have h2:=h.sum 2 (by omega) (by simp);simp[hL1,A6]at h0 h1 h2;refine⟨?_,?_,?_,h3⟩<;>grind
theorem UY{e:Nat->Rat}(h:Eff 4 hL2 [3] e):e 0=8/12/\e 1=4/12/\e 2=0/\e 3=1:=by
 have h3:=h.listed 3 (by simp);have h0:=h.sum 0 (by omega) (by simp);have h1:=h.sum 1 (by omega) (by simp);have h2:=h.sum 2 (by omega) (by simp);simp[hL2,A6]at h0 h1 h2;refine⟨?_,?_,?_,h3⟩<;>grind
theorem UZ(hL:Caps 4 hL3){e:Nat->Rat}(h:Eff 4 hL3 [3] e):e 0=0/\e 1=0/\e 2=0/\e 3=1:=by
 have h3:=h.listed 3 (by simp);have h2:=h.sum 2 (by omega) (by simp);simp[hL3,A6]at h2
 have hl:=h.least hL (v:=fun p=>if p=3 then 1 else 0) (fun p _=>by split<;>decide) (fun p _ hp=>by simp at hp;simp[hp]) (fun p hp hF=>by
  have h4:p=0\/p=1\/p=2\/p=3:=by omega
  rcases h4 with rfl|rfl|rfl|rfl
  .simp[hL3,A6];grind
  .simp[hL3,A6];grind
  .simp[hL3,A6];grind
  simp at hF)
 have l0:=hl 0 (by omega);have l1:=hl 1 (by omega);simp at l0 l1;have g0:=(h.rng 0).1;have g1:=(h.rng 1).1;refine⟨?_,?_,?_,h3⟩<;>grind
theorem Va{e:Nat->Rat}(h:Eff 4 hL4 [3] e):e 0=12/12/\e 1=0/\e 2=6/12/\e 3=1:=by
 have h3:=h.listed 3 (by simp);have h0:=h.sum 0 (by omega) (by simp);have h1:=h.sum 1 (by omega) (by simp);have h2:=h.sum 2 (by omega) (by simp);simp[hL4,A6]at h0 h1 h2;refine⟨?_,?_,?_,h3⟩<;>grind
end Sh
end
end Go.Proofs.YtmfjbpcecpgchaaGreatDoor

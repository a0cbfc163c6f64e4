/- Parts of the proof. -/
import Derived.Test.YtefmpngjjmddjaaGreatDoorKgG
set_option maxHeartbeats 32000000
set_option maxRecDepth 1000000
open Go.Proofs.Tryz
namespace Go.Proofs.YtefmpngjjmddjaaGreatDoor
theorem tkgH{P:Program}{md:Region.Mode}{ops:Array Oper}{Q:Exit->Act->World->Prop}{S:World->Prop}{oi:Oper}{v:Value}{fuel:Nat}{listed:Array Bool}{a:Act}{w:World}(i:Nat)(hi:ops[i]?=some oi)(hS:S w)(hy:YieldsIf P ops S oi v a)(h:wpAnyH P md ops Q S fuel (listed.setIfInBounds i true) (a.put oi.dst v) w)(hs:Region.noSelect ops=true:=by kernel_rfl)(hf:Region.free md ops listed i=true:=by kernel_rfl)(hr:(Region.ready md ops listed).contains i=true:=by kernel_rfl)(hQ:∀c a w,Q (.panic c) (a.put oi.dst v) w->Q (.panic c) a w:=by exact fun _ _ _ h=>h):wpAnyH P md ops Q S (fuel+1) listed a w:=xY hi hs hf hr hQ hy hS h
section
open Go.RowKit Go.Shelf
namespace Sh
open Nt Ci
theorem Kw{W:World}{b:Nat}{v:Value}(h:W.cell? ⟨b,0,none⟩=some v):∀j u,[v][j]? = some u->W.cell? ((⟨b,0,none⟩:Addr).add j)=some u:=by
 intro j u hj
 match j,hj with
 |0,hj=>simp only[List.getElem?_cons_zero,Option.some.injEq]at hj;subst hj;simpa [Addr.add] using h
 |j+1,hj=>simp at hj
theorem Ss{W:World}{b:Nat}{x y z:Value}(h0:W.cell? ⟨b,0,none⟩=some x)(h1:W.cell? ⟨b,1,none⟩=some y)(h2:W.cell? ⟨b,2,none⟩=some z):∀j u,[x,y,z][j]? = some u->W.cell? ((⟨b,0,none⟩:Addr).add j)=some u:=by
 intro j u hj
 match j,hj with
 |0,hj=>simp at hj;subst hj;simpa [Addr.add] using h0
 |1,hj=>simp at hj;subst hj;simpa [Addr.add] using h1
 |2,hj=>simp at hj;subst hj;simpa [Addr.add] using h2
 |j+3,hj=>simp at hj
theorem PE{P:Program}{md:Region.Mode}{ops:Array Oper}{Q:Exit->Act->World->Prop}{S:World->Prop}{n:Nat}{l:Array Bool}{a:Act}{w:World}
 (h:∀F:Nat->Array Bool->Act->World->Prop,F=wpAnyH P md ops Q S->F n l a w):wpAnyH P md ops Q S n l a w:=h _ rfl
theorem VX{F:Nat->Array Bool->Act->World->Prop}{n n':Nat}{l l':Array Bool}{a a':Act}{w:World}(hn:n'=n)(hl:l'=l)(ha:a'=a)(h:F n l a w):F n' l' a' w:=by rw[hn,hl,ha];exact h
theorem DQ{W:World}{base n m:Nat}{e:TypeId}{u:Value}{xs:List Value}(h:W.ownsRow base e m u n xs):∃A cap,u=.slice A n cap:=by
 rcases h.2 with⟨rfl,h0⟩|⟨g,cap,cur,rfl,_⟩
 .exact⟨none,0,by rw[h0]⟩
 exact⟨_,cap,rfl⟩
structure G22(xb gb:Nat)(uv:Value)(Aa Ab:Option Addr)(i ca cb:Nat)(x:Raw)(w W:World):Prop where
 k:Kp (xb::((Value.slice Aa i ca).ownBlock.toList++(Value.slice Ab i cb).ownBlock.toList)) w W
 y:Bk W xb 84 [uv,.slice Aa i ca,.slice Ab i cb]
 b:Bk W gb 48 [.bool x.1,.string x.2.1,.string x.2.2]
theorem G22.alloc{xb gb:Nat}{uv:Value}{Aa Ab:Option Addr}{i ca cb:Nat}{x:Raw}{w W:World}(h:G22 xb gb uv Aa Ab i ca cb x w W)(o:Obj):G22 xb gb uv Aa Ab i ca cb x w (W.alloc o):=⟨h.k.alloc o,h.y.alloc o,h.b.alloc o⟩
theorem Ah{W:World}{b:Nat}{t:TypeId}{v0 v1 v2:Value}(h:Bk W b t [v0,v1,v2]):W.cell? ⟨b,0,none⟩=some v0/\W.cell? ⟨b,1,none⟩=some v1/\W.cell? ⟨b,2,none⟩=some v2:=⟨h.c0,h.c1,h.c2⟩
theorem Ir{x:Nat}{w W W':World}{L:List Nat}{o:Option Nat}(h:Kp (x::L) w W)(hg:W.grownBy W' o)(hl:∀b,o=some b->b∈L\/w.heap.size<=b):Kp (x::L) w W' :=
 h.grown hg fun b e=>(hl b e).imp (zY _) id
theorem XH{c1 c2 c3 c4 c5 c6 c7 c8 aM aN aO ab aP aQ aR aS aT aU aV aW aX aY aZ a0 a1 a2 a3 a4 a5 a6 a7 a8 a9 ba bb bc bd be bf bg bh bi bj bk bm bn bo bp bq br bs bt bu bv bw bx bz bA bB bC bD bE bF bG bH bI bJ bK bL bM bN bO bP bQ bR bS bT bU bW bX bY bZ b0 b1 aE cd cf a89 cg ch ax ci ay am cj ck cm au b4 al af aI aJ aK aL:Value}{Q:Exit->Act->World->Prop}(xb gb rb m i ca cb B1:Nat)(Aa Ab:Option Addr)(uv:Value)(ai cbs:List Value)(x:Raw)(w:World)(hi:i<=1000)(hx:Bk w xb 84 [uv,.slice Aa i ca,.slice Ab i cb])(hb:Bk w gb 48 [.bool x.1,.string x.2.1,.string x.2.2])(ngx:gb≠xb)(aB:B1<=w.heap.size)(b7:xb<B1)(oa:w.ownsRow B1 39 1 (Value.slice Aa i ca) i ai)(ob:w.ownsRow B1 48 3 (Value.slice Ab i cb) i cbs)(ap:∀b,(Value.slice Aa i ca).ownBlock=some b->(Value.slice Ab i cb).ownBlock≠some b)(nga:(Value.slice Aa i ca).ownBlock≠some gb)(ngb:(Value.slice Ab i cb).ownBlock≠some gb)
 (h:∀(u87 u88 u89 u90 u91 u92 u93 u94 u95 u96 u97 u98 u99 u100 u101 u102 u103 u104 u105 u106:Value)(Aa2 Ab2:Option Addr)(ae aj:Nat)(W:World)(_:Hid (Kp (xb::((Value.slice Aa i ca).ownBlock.toList++(Value.slice Ab i cb).ownBlock.toList)) w W))(_:Hid (Bk W xb 84 [uv,.slice Aa2 (i+1) ae,.slice Ab2 (i+1) aj]))(_:Hid (W.ownsRow B1 39 1 (Value.slice Aa2 (i+1) ae) (i+1) (ai++[.slice (some ⟨rb,0,none⟩) m m])))(_:Hid (W.ownsRow B1 48 3 (Value.slice Ab2 (i+1) aj) (i+1) (cbs++[.bool x.1,.string x.2.1,.string x.2.2])))(_:Hid (∀b,(Value.slice Aa2 (i+1) ae).ownBlock=some b->(Value.slice Ab2 (i+1) aj).ownBlock≠some b))(_:Hid ((Value.slice Aa2 (i+1) ae).ownBlock=(Value.slice Aa i ca).ownBlock\/∃b,(Value.slice Aa2 (i+1) ae).ownBlock=some b/\w.heap.size<=b))(_:Hid ((Value.slice Ab2 (i+1) aj).ownBlock=(Value.slice Ab i cb).ownBlock\/∃b,(Value.slice Ab2 (i+1) aj).ownBlock=some b/\w.heap.size<=b)),Q .normal ⟨#[.pointer (some ⟨xb,0,none⟩),c1,c2,c3,c4,c5,c6,c7,c8,.slice (some ⟨rb,0,none⟩) m m,aM,.pointer (some ⟨gb,0,none⟩),aN,aO,ab,aP,aQ,aR,aS,aT,aU,aV,aW,aX,aY,aZ,a0,a1,a2,a3,a4,a5,a6,a7,a8,a9,ba,bb,bc,bd,be,bf,bg,bh,bi,bj,bk,bm,bn,bo,bp,bq,br,bs,bt,bu,bv,bw,bx,bz,bA,bB,bC,bD,bE,bF,bG,bH,bI,bJ,bK,bL,bM,bN,bO,bP,bQ,bR,bS,bT,bU,bW,bX,bY,bZ,b0,b1,u87,u88,u89,u90,u91,u92,u93,u94,u95,u96,u97,u98,u99,u100,u101,u102,u103,u104,u105,u106,aE],[]⟩ W):
 Code.wp prog (bdR 22) Q ⟨#[.pointer (some ⟨xb,0,none⟩),c1,c2,c3,c4,c5,c6,c7,c8,.slice (some ⟨rb,0,none⟩) m m,aM,.pointer (some ⟨gb,0,none⟩),aN,aO,ab,aP,aQ,aR,aS,aT,aU,aV,aW,aX,aY,aZ,a0,a1,a2,a3,a4,a5,a6,a7,a8,a9,ba,bb,bc,bd,be,bf,bg,bh,bi,bj,bk,bm,bn,bo,bp,bq,br,bs,bt,bu,bv,bw,bx,bz,bA,bB,bC,bD,bE,bF,bG,bH,bI,bJ,bK,bL,bM,bN,bO,bP,bQ,bR,bS,bT,bU,bW,bX,bY,bZ,b0,b1,cd,cf,a89,cg,ch,ax,ci,ay,am,cj,ck,cm,au,b4,al,af,aI,aJ,aK,aL,aE],[]⟩ w:=by
 conv=>arg 2;whnf
 conv=>arg 4;zeta
 replace h:=zh h;have cr:Hid (Kp (xb::((Value.slice Aa i ca).ownBlock.toList++(Value.slice Ab i cb).ownBlock.toList)) w w.drew):=(Kp.refl _ w).drew;have cx:Hid (Bk w.drew xb 84 [uv,.slice Aa i ca,.slice Ab i cb]):=hx.below (zI _ w).drew;have b5:Hid (Bk w.drew gb 48 [.bool x.1,.string x.2.1,.string x.2.2]):=hb.below (zI _ w).drew;have cA:=zh (AC oa (zI _ w).drew);have cC:=zh (AC ob (zI _ w).drew);have b6:Hid (∀b,(Value.slice Aa i ca).ownBlock=some b->B1<=b/\b<w.heap.size):=fun b e=>oa.lt b e;have cI:Hid (∀b,(Value.slice Ab i cb).ownBlock=some b->B1<=b/\b<w.heap.size):=fun b e=>ob.lt b e;have nxa:Hid ((Value.slice Aa i ca).ownBlock≠some xb):=fun e=>by have:=(oa.lt xb e).1;omega
 have nxb:Hid ((Value.slice Ab i cb).ownBlock≠some xb):=fun e=>by have:=(ob.lt xb e).1;omega
 have gl:=hb.lt;have xl:=hx.lt;replace ap:=zh ap;clear oa ob hb hx;replace aB:=zh aB;replace nga:=zh nga;replace ngb:=zh ngb;replace ngx:=zh ngx;replace b7:=zh b7;replace gl:=zh gl;replace xl:=zh xl;have aH:Hid (∀b,(Value.slice Aa i ca).ownBlock=some b->b∈((Value.slice Aa i ca).ownBlock.toList++(Value.slice Ab i cb).ownBlock.toList)\/w.heap.size<=b):=fun b e=>.inl (by rw[e];simp);have cu:Hid (∀b,(Value.slice Ab i cb).ownBlock=some b->b∈((Value.slice Aa i ca).ownBlock.toList++(Value.slice Ab i cb).ownBlock.toList)\/w.heap.size<=b):=fun b e=>.inl (by rw[e];simp);obtain⟨i0,aD,aG⟩:=Option.map_eq_some_iff.1 RS;simp only[Prod.mk.injEq]at aG;obtain⟨z0i0,z1i0,z2i0⟩:=aG;replace aD:=zh aD;replace z0i0:=zh z0i0;replace z1i0:=zh z1i0;replace z2i0:=zh z2i0;obtain⟨i3,b2,aG⟩:=Option.map_eq_some_iff.1 infoQ;simp only[Prod.mk.injEq]at aG;obtain⟨z0i3,z1i3,z2i3⟩:=aG;replace b2:=zh b2;replace z0i3:=zh z0i3;replace z1i3:=zh z1i3;replace z2i3:=zh z2i3;refine yx ?_;refine yq (S:=fun W=>W.cell? ⟨gb,0,none⟩=some (.bool x.1)/\W.cell? ⟨gb,1,none⟩=some (.string x.2.1)/\W.cell? ⟨gb,2,none⟩=some (.string x.2.2)) (by kernel_rfl) (Ah b5.o) (fun ar=>?_);replace ar:=zh ar;refine tkgH (v:=?_) 0 rfl (ar.o) (Or.inl ⟨by rfl,?_⟩) ?_;rotate_left
 . (intro w ah;obtain⟨q1,q2,q3⟩:=ah;go_simp<;>with_reducible rfl)
 try simp only[Act.put,zA]
 refine tkgH (v:=?_) 1 rfl (ar.o) (Or.inl ⟨by rfl,?_⟩) ?_;rotate_left
 . (intro w ah;obtain⟨q1,q2,q3⟩:=ah;go_simp<;>with_reducible rfl)
 try simp only[Act.put]
 refine tkgH (v:=?_) 2 rfl (ar.o) (Or.inl ⟨by rfl,?_⟩) ?_;rotate_left
 . (intro w ah;obtain⟨q1,q2,q3⟩:=ah;go_simp<;>with_reducible rfl)
 try simp only[Act.put]
 refine tkgH (v:=?_) 3 rfl (ar.o) (Or.inl ⟨by rfl,?_⟩) ?_;rotate_left
 . (intro w ah;obtain⟨q1,q2,q3⟩:=ah;go_simp<;>with_reducible rfl)
 try simp only[Act.put]
 refine tkgH (v:=?_) 4 rfl (ar.o) (Or.inl ⟨by rfl,?_⟩) ?_;rotate_left
 . (intro w ah;obtain⟨q1,q2,q3⟩:=ah;go_simp<;>with_reducible rfl)
 try simp only[Act.put]
 refine tkgH (v:=?_) 6 rfl (ar.o) (Or.inl ⟨by rfl,?_⟩) ?_;rotate_left
 . (intro w ah;obtain⟨q1,q2,q3⟩:=ah;go_simp<;>with_reducible rfl)
 try simp only[Act.put]
 refine tkgH (v:=?_) 9 rfl (ar.o) (Or.inl ⟨by rfl,?_⟩) ?_;rotate_left
 . (intro w ah;obtain⟨q1,q2,q3⟩:=ah;go_simp<;>with_reducible rfl)
 try simp only[Act.put]
 refine tkgH (v:=?_) 10 rfl (ar.o) (Or.inl ⟨by rfl,?_⟩) ?_;rotate_left
 . (intro w ah;obtain⟨q1,q2,q3⟩:=ah;go_simp<;>with_reducible rfl)
 try simp only[Act.put]
 refine tkgH (v:=?_) 11 rfl (ar.o) (Or.inl ⟨by rfl,?_⟩) ?_;rotate_left
 . (intro w ah;obtain⟨q1,q2,q3⟩:=ah;go_simp<;>with_reducible rfl)
 try simp only[Act.put]
 refine tkgH (v:=?_) 13 rfl (ar.o) (Or.inl ⟨by rfl,?_⟩) ?_;rotate_left
 . (intro w ah;obtain⟨q1,q2,q3⟩:=ah;go_simp<;>with_reducible rfl)
 try simp only[Act.put]
 clear ar;refine PE (fun F hF=>?_);replace hF:=zh hF;obtain⟨fr,ad⟩:∃f:Value->Value->Value->Value->Value->Value->Act,f=fun cE cF cG cH b8 b9=>⟨#[.pointer (some ⟨xb,0,none⟩),c1,c2,c3,c4,c5,c6,c7,c8,.slice (some ⟨rb,0,none⟩) m m,aM,.pointer (some ⟨gb,0,none⟩),aN,aO,ab,aP,aQ,aR,aS,aT,aU,aV,aW,aX,aY,aZ,a0,a1,a2,a3,a4,a5,a6,a7,a8,a9,ba,bb,bc,bd,be,bf,bg,bh,bi,bj,bk,bm,bn,bo,bp,bq,br,bs,bt,bu,bv,bw,bx,bz,bA,bB,bC,bD,bE,bF,bG,bH,bI,bJ,bK,bL,bM,bN,bO,bP,bQ,bR,bS,bT,bU,bW,bX,bY,bZ,b0,b1,.pointer (some ⟨xb,0,none⟩),.pointer (some ⟨xb,0,none⟩),.pointer (some ⟨xb,0,none⟩),.pointer (some ⟨xb,0,none⟩),.pointer (some ⟨xb,1,none⟩),cE,.slice (some ⟨rb,0,none⟩) m m,cF,cG,.pointer (some ⟨xb,0,none⟩),.pointer (some ⟨xb,0,none⟩),.pointer (some ⟨xb,2,none⟩),cH,.agg #[.bool x.1,.string x.2.1,.string x.2.2],b8,b9,aI,aJ,aK,aL,aE],[]⟩:=⟨_,rfl⟩;replace ad:=zh ad;have cq:Hid (G22 xb gb uv Aa Ab i ca cb x w w.drew):=⟨cr.o,cx.o,b5.o⟩
 have Lx5x7x8x12x14x15:∀(l7:Nat)(Aa2:Option Addr)(ae:Nat)(aa:Nat)(Ab2:Option Addr)(aj:Nat)(W:World),Hid (G22 xb gb uv Aa Ab i ca cb x w W)->Hid (W.ownsRow B1 39 1 (Value.slice Aa2 (i+1) ae) (i+1) (ai++[.slice (some ⟨rb,0,none⟩) m m]))->Hid ((Value.slice Aa2 (i+1) ae).ownBlock=(Value.slice Aa i ca).ownBlock\/∃b,(Value.slice Aa2 (i+1) ae).ownBlock=some b/\w.heap.size<=b)->Hid (W.ownsRow B1 48 3 (Value.slice Ab2 (i+1) aj) (i+1) (cbs++[.bool x.1,.string x.2.1,.string x.2.2]))->Hid ((Value.slice Ab2 (i+1) aj).ownBlock=(Value.slice Ab i cb).ownBlock\/∃b,(Value.slice Ab2 (i+1) aj).ownBlock=some b/\w.heap.size<=b)->Hid (∀b,(Value.slice Aa2 (i+1) ae).ownBlock=some b->(Value.slice Ab2 (i+1) aj).ownBlock≠some b)->F 6 #[true,true,true,true,true,true,true,true,true,true,true,true,true,true,true,true,false,false,false,false,false,false] (fr (.slice Aa i ca) (.slice (some ⟨l7,0,none⟩) 1 1) (.slice Aa2 (i+1) ae) (.slice Ab i cb) (.slice (some ⟨aa,0,none⟩) 1 1) (.slice Ab2 (i+1) aj)) W:=by
  intro l7 Aa2 ae aa Ab2 aj W hg oa na ob nb ap;rw[hF.o,ad.o];dsimp only;refine tkgH (v:=?_) 16 rfl (Ah hg.o.b) (Or.inl ⟨by rfl,?_⟩) ?_;rotate_left
  . (intro w ah;obtain⟨q1,q2,q3⟩:=ah;go_simp<;>with_reducible rfl)
  try simp only[Act.put,zA,zF,zE]
  refine tkgH (v:=?_) 17 rfl (Ah hg.o.b) (Or.inl ⟨by rfl,?_⟩) ?_;rotate_left
  . (intro w ah;obtain⟨q1,q2,q3⟩:=ah;go_simp<;>with_reducible rfl)
  try simp only[Act.put,zA,zF,zE]
  have x1:=hg.o.y.c1;have f1:=hg.o.y.frozen 1;have x9:=hg.o.y.lt;refine zU (rs:=[18]) (by kernel_rfl) (by simp) ?_;refine zK (o:=_) rfl (fun K hK=>?_) ?_
  .go_simp;have ak:Hid (Bk (W.setCell ⟨xb,1,none⟩ (.slice Aa2 (i+1) ae)) gb 48 [.bool x.1,.string x.2.1,.string x.2.2]):=hg.o.b.far (p:=⟨xb,1,none⟩) ngx.o _;have aq:Hid (Bk (W.setCell ⟨xb,1,none⟩ (.slice Aa2 (i+1) ae)) xb 84 [uv,.slice Aa2 (i+1) ae,.slice Ab i cb]):=hg.o.y.set 1 (.slice Aa2 (i+1) ae);have aw:Hid (Kp (xb::((Value.slice Aa i ca).ownBlock.toList++(Value.slice Ab i cb).ownBlock.toList)) w (W.setCell ⟨xb,1,none⟩ (.slice Aa2 (i+1) ae))):=hg.o.k.set (a:=⟨xb,1,none⟩) _ (.inl (by simp));have nxa2:Hid ((Value.slice Aa2 (i+1) ae).ownBlock≠some xb):=fun e=>by rcases na.o with c|⟨b,c,d⟩;(· exact nxa.o (c▸e));(· rw[c]at e;cases e;have:=xl.o;omega)
   have nxb2:Hid ((Value.slice Ab2 (i+1) aj).ownBlock≠some xb):=fun e=>by rcases nb.o with c|⟨b,c,d⟩;(· exact nxb.o (c▸e));(· rw[c]at e;cases e;have:=xl.o;omega)
   have b3:=zh (oa.o.kept (Au W ⟨xb,1,none⟩ (.slice Aa2 (i+1) ae)) (.inr nxa2.o));have aA:=zh (ob.o.kept (Au W ⟨xb,1,none⟩ (.slice Aa2 (i+1) ae)) (.inr nxb2.o));clear x1 f1 x9;refine hK.o _ _ (Ah ak.o) (fun _=>?_);clear hK K
   try simp only[zA,zF,zE]
   refine tkgH (v:=?_) 19 rfl (Ah ak.o) (Or.inl ⟨by rfl,?_⟩) ?_;rotate_left
   . (intro w ah;obtain⟨q1,q2,q3⟩:=ah;go_simp<;>with_reducible rfl)
   try simp only[Act.put,zA,zF,zE]
   refine tkgH (v:=?_) 20 rfl (Ah ak.o) (Or.inl ⟨by rfl,?_⟩) ?_;rotate_left
   . (intro w ah;obtain⟨q1,q2,q3⟩:=ah;go_simp<;>with_reducible rfl)
   try simp only[Act.put,zA,zF,zE]
   have x1:=aq.o.c2;have f1:=aq.o.frozen 2;have x9:=aq.o.lt;refine zU (rs:=[21]) (by kernel_rfl) (by simp) ?_;refine zK (o:=_) rfl (fun K hK=>?_) ?_
   .go_simp;have cn:Hid (Bk ((W.setCell ⟨xb,1,none⟩ (.slice Aa2 (i+1) ae)).setCell ⟨xb,2,none⟩ (.slice Ab2 (i+1) aj)) gb 48 [.bool x.1,.string x.2.1,.string x.2.2]):=ak.o.far (p:=⟨xb,2,none⟩) ngx.o _;have cy:Hid (Bk ((W.setCell ⟨xb,1,none⟩ (.slice Aa2 (i+1) ae)).setCell ⟨xb,2,none⟩ (.slice Ab2 (i+1) aj)) xb 84 [uv,.slice Aa2 (i+1) ae,.slice Ab2 (i+1) aj]):=aq.o.set 2 (.slice Ab2 (i+1) aj);have ct:Hid (Kp (xb::((Value.slice Aa i ca).ownBlock.toList++(Value.slice Ab i cb).ownBlock.toList)) w ((W.setCell ⟨xb,1,none⟩ (.slice Aa2 (i+1) ae)).setCell ⟨xb,2,none⟩ (.slice Ab2 (i+1) aj))):=aw.o.set (a:=⟨xb,2,none⟩) _ (.inl (by simp));have cB:=zh (b3.o.kept (Au (W.setCell ⟨xb,1,none⟩ (.slice Aa2 (i+1) ae)) ⟨xb,2,none⟩ (.slice Ab2 (i+1) aj)) (.inr nxa2.o));have cD:=zh (aA.o.kept (Au (W.setCell ⟨xb,1,none⟩ (.slice Aa2 (i+1) ae)) ⟨xb,2,none⟩ (.slice Ab2 (i+1) aj)) (.inr nxb2.o));clear x1 f1 x9;refine hK.o _ _ (Ah cn.o) (fun _=>?_);clear hK K
    try simp only[zA,zF,zE]
    refine yz (by kernel_rfl) ?_ _;refine yX ?_;exact h.o _ _ _ _ _ _ _ _ _ _ _ _ _ _ _ _ _ _ _ _ _ _ _ _ _ ct cy cB cD ap na nb
   exact zR
  exact zR
 have Lx5x7x8x12x14:∀(l7:Nat)(Aa2:Option Addr)(ae:Nat)(aa:Nat)(W:World),Hid (G22 xb gb uv Aa Ab i ca cb x w W)->Hid (W.ownsRow B1 39 1 (Value.slice Aa2 (i+1) ae) (i+1) (ai++[.slice (some ⟨rb,0,none⟩) m m]))->Hid ((Value.slice Aa2 (i+1) ae).ownBlock=(Value.slice Aa i ca).ownBlock\/∃b,(Value.slice Aa2 (i+1) ae).ownBlock=some b/\w.heap.size<=b)->Hid (W.ownsRow B1 48 3 (Value.slice Ab i cb) i cbs)->Hid (∀b,(Value.slice Aa2 (i+1) ae).ownBlock=some b->(Value.slice Ab i cb).ownBlock≠some b)->Hid ((W.cell? ⟨aa,0,none⟩=some (.bool x.1)/\W.cell? ⟨aa,1,none⟩=some (.string x.2.1)/\W.cell? ⟨aa,2,none⟩=some (.string x.2.2))/\w.heap.size<=aa/\aa<W.heap.size)->F 7 #[true,true,true,true,true,true,true,true,true,true,true,true,true,true,true,false,false,false,false,false,false,false] (fr (.slice Aa i ca) (.slice (some ⟨l7,0,none⟩) 1 1) (.slice Aa2 (i+1) ae) (.slice Ab i cb) (.slice (some ⟨aa,0,none⟩) 1 1) af) W:=by
  intro l7 Aa2 ae aa W hg oa na ob ap ab;rw[hF.o,ad.o];dsimp only;refine zU (rs:=[15]) (by kernel_rfl) (by simp) ?_;refine zK (o:=_) rfl (fun K hK=>?_) ?_
  .rw[zD (by rfl)];refine Nt.AI _ _ _ 39 rfl B1 48 i3 (.agg #[.bool false,.string ⟨#[]⟩,.string ⟨#[]⟩]) 3 40 underlying39 b2.o z0i3.o z1i3.o z2i3.o rfl (by decide) (.slice Ab i cb) i cbs rfl ob.o ⟨aa,0,none⟩ 1 1 [.bool x.1,.string x.2.1,.string x.2.2] rfl rfl (Ss ab.o.1.1 ab.o.1.2.1 ab.o.1.2.2) (fun u hu=>Lt x u hu) (by omega) (by unfold maxLen;omega) (by omega) (zS aB.o hg.o.k.size) ?_;intro vx wx ao ag an;obtain⟨A9,c9,rfl⟩:=DQ ao;have ak:=zh (hg.o.b.grown ag (fun e=>ngb.o e.symm));have aq:=zh (hg.o.y.grown ag (fun e=>nxb.o e.symm));have aw:=zh (Ir hg.o.k ag cu.o);have b3:=zh (oa.o.kept ag (by cases e:(Value.slice Aa2 (i+1) ae).ownBlock with|none=>exact .inl rfl|some b=>exact .inr (fun e2=>ap.o b e e2.symm)));have cz:Hid ((Value.slice A9 (i+1) c9).ownBlock=(Value.slice Ab i cb).ownBlock\/∃b,(Value.slice A9 (i+1) c9).ownBlock=some b/\w.heap.size<=b):=an.imp id fun e=>⟨_,e,hg.o.k.size⟩;have az:Hid (∀b,(Value.slice Aa2 (i+1) ae).ownBlock=some b->(Value.slice A9 (i+1) c9).ownBlock≠some b):=fun b e e2=>by rcases an with c|c;(· exact ap.o b e (c▸e2));(· rw[c]at e2;cases e2;have:=(oa.o.lt _ e).2;omega)
   refine hK.o _ _ (Ah ak.o) (fun _=>?_);clear hK K
   try simp only[Act.put,zA,zF,zE]
   rw[<-hF.o];have hl:=Lx5x7x8x12x14x15 l7 Aa2 ae aa A9 c9 wx (zh ⟨aw.o,aq.o,ak.o⟩) b3 na (zh ao) cz az;rw[ad.o]at hl;exact hl
  exact zR
 have Lx5x7x12x14:∀(l7:Nat)(aa:Nat)(W:World),Hid (G22 xb gb uv Aa Ab i ca cb x w W)->Hid (W.ownsRow B1 39 1 (Value.slice Aa i ca) i ai)->Hid (W.ownsRow B1 48 3 (Value.slice Ab i cb) i cbs)->Hid (∀b,(Value.slice Aa i ca).ownBlock=some b->(Value.slice Ab i cb).ownBlock≠some b)->Hid (W.cell? ⟨l7,0,none⟩=some (.slice (some ⟨rb,0,none⟩) m m)/\w.heap.size<=l7/\l7<W.heap.size)->Hid ((W.cell? ⟨aa,0,none⟩=some (.bool x.1)/\W.cell? ⟨aa,1,none⟩=some (.string x.2.1)/\W.cell? ⟨aa,2,none⟩=some (.string x.2.2))/\w.heap.size<=aa/\aa<W.heap.size)->F 8 #[true,true,true,true,true,true,true,true,false,true,true,true,true,true,true,false,false,false,false,false,false,false] (fr (.slice Aa i ca) (.slice (some ⟨l7,0,none⟩) 1 1) am (.slice Ab i cb) (.slice (some ⟨aa,0,none⟩) 1 1) af) W:=by
  intro l7 aa W hg oa ob ap c7 ab;rw[hF.o,ad.o];dsimp only;refine zU (rs:=[8]) (by kernel_rfl) (by simp) ?_;refine zK (o:=_) rfl (fun K hK=>?_) ?_
  .rw [zD (by rfl)];refine Nt.AI _ _ _ 82 rfl B1 39 i0 (.slice none 0 0) 1 24 underlying82 aD.o z0i0.o z1i0.o z2i0.o rfl (by decide) (.slice Aa i ca) i ai rfl oa.o ⟨l7,0,none⟩ 1 1 [.slice (some ⟨rb,0,none⟩) m m] rfl rfl (Kw c7.o.1) (Ci.AM _ rfl) (by omega) (by unfold maxLen;omega) (by omega) (zS aB.o hg.o.k.size) ?_;intro vx wx ao ag an;obtain⟨A9,c9,rfl⟩:=DQ ao;have ak:=zh (hg.o.b.grown ag (fun e=>nga.o e.symm));have aq:=zh (hg.o.y.grown ag (fun e=>nxa.o e.symm));have aw:=zh (Ir hg.o.k ag aH.o);have aA:=zh (ob.o.kept ag (by cases e:(Value.slice Ab i cb).ownBlock with|none=>exact .inl rfl|some b=>exact .inr (fun e2=>ap.o b e2.symm e)));have aC:Hid ((Value.slice A9 (i+1) c9).ownBlock=(Value.slice Aa i ca).ownBlock\/∃b,(Value.slice A9 (i+1) c9).ownBlock=some b/\w.heap.size<=b):=an.imp id fun e=>⟨_,e,hg.o.k.size⟩;have az:Hid (∀b,(Value.slice A9 (i+1) c9).ownBlock=some b->(Value.slice Ab i cb).ownBlock≠some b):=fun b e e2=>by rcases an with c|c;(· exact ap.o b (c▸e) e2);(· rw[c]at e;cases e;have:=(ob.o.lt _ e2).2;omega)
   have aF:Hid (((wx.cell? ⟨aa,0,none⟩=some (.bool x.1)/\wx.cell? ⟨aa,1,none⟩=some (.string x.2.1)/\wx.cell? ⟨aa,2,none⟩=some (.string x.2.2))/\w.heap.size<=aa/\aa<wx.heap.size)):=by
    have av:=ag.block aa ab.o.2.2 (fun e=>by have:=(b6.o _ e.symm).2;have:=ab.o.2.1;omega);exact⟨⟨(zT (a:=⟨aa,0,none⟩) av).trans ab.o.1.1,(zT (a:=⟨aa,1,none⟩) av).trans ab.o.1.2.1,(zT (a:=⟨aa,2,none⟩) av).trans ab.o.1.2.2⟩,ab.o.2.1,zJ ab.o.2.2 ag.size⟩
   refine hK.o _ _ (Ah ak.o) (fun _=>?_);clear hK K
   try simp only[Act.put,zA,zF,zE]
   rw[<-hF.o];have hl:=Lx5x7x8x12x14 l7 A9 c9 aa wx (zh ⟨aw.o,aq.o,ak.o⟩) (zh ao) aC aA az aF;rw[ad.o]at hl;exact hl
  exact zR
 have Lx5x7x8x12:∀(l7:Nat)(Aa2:Option Addr)(ae:Nat)(W:World),Hid (G22 xb gb uv Aa Ab i ca cb x w W)->Hid (W.ownsRow B1 39 1 (Value.slice Aa2 (i+1) ae) (i+1) (ai++[.slice (some ⟨rb,0,none⟩) m m]))->Hid ((Value.slice Aa2 (i+1) ae).ownBlock=(Value.slice Aa i ca).ownBlock\/∃b,(Value.slice Aa2 (i+1) ae).ownBlock=some b/\w.heap.size<=b)->Hid (W.ownsRow B1 48 3 (Value.slice Ab i cb) i cbs)->Hid (∀b,(Value.slice Aa2 (i+1) ae).ownBlock=some b->(Value.slice Ab i cb).ownBlock≠some b)->F 8 #[true,true,true,true,true,true,true,true,true,true,true,true,true,true,false,false,false,false,false,false,false,false] (fr (.slice Aa i ca) (.slice (some ⟨l7,0,none⟩) 1 1) (.slice Aa2 (i+1) ae) (.slice Ab i cb) al af) W:=by
  intro l7 Aa2 ae W hg oa na ob ap;rw[hF.o,ad.o];dsimp only;refine zU (rs:=[14]) (by kernel_rfl) (by simp) ?_;refine zK (o:=_) rfl (fun K hK=>?_) ?_
  .go_simp;refine hK.o _ _ (Ah (hg.o.b.alloc _)) (fun _=>?_);clear hK K
   try simp only[zA,zF,zE]
   rw[<-hF.o];have hl:=Lx5x7x8x12x14 l7 Aa2 ae W.heap.size (W.alloc (.cells #[.bool x.1,.string x.2.1,.string x.2.2] 48)) (zh ((hg.o.alloc _))) (zh ((oa.o.alloc _))) (zh (na.o)) (zh ((ob.o.alloc _))) (zh (ap.o)) (zh (⟨⟨(Bk.new W 48 [.bool x.1,.string x.2.1,.string x.2.2]).c0,(Bk.new W 48 [.bool x.1,.string x.2.1,.string x.2.2]).c1,(Bk.new W 48 [.bool x.1,.string x.2.1,.string x.2.2]).c2⟩,hg.o.k.size,by rw[zX];exact zo _⟩));rw[ad.o]at hl;exact hl
  exact zR
 have Lx5x7x12:∀(l7:Nat)(W:World),Hid (G22 xb gb uv Aa Ab i ca cb x w W)->Hid (W.ownsRow B1 39 1 (Value.slice Aa i ca) i ai)->Hid (W.ownsRow B1 48 3 (Value.slice Ab i cb) i cbs)->Hid (∀b,(Value.slice Aa i ca).ownBlock=some b->(Value.slice Ab i cb).ownBlock≠some b)->Hid (W.cell? ⟨l7,0,none⟩=some (.slice (some ⟨rb,0,none⟩) m m)/\w.heap.size<=l7/\l7<W.heap.size)->F 9 #[true,true,true,true,true,true,true,true,false,true,true,true,true,true,false,false,false,false,false,false,false,false] (fr (.slice Aa i ca) (.slice (some ⟨l7,0,none⟩) 1 1) am (.slice Ab i cb) al af) W:=by
  intro l7 W hg oa ob ap c7;rw[hF.o,ad.o];dsimp only;refine zU (rs:=[8,14]) (by kernel_rfl) (by simp) ?_;refine zK (o:=_) rfl (fun K hK=>?_) ?_
  .rw[zD (by rfl)];refine Nt.AI _ _ _ 82 rfl B1 39 i0 (.slice none 0 0) 1 24 underlying82 aD.o z0i0.o z1i0.o z2i0.o rfl (by decide) (.slice Aa i ca) i ai rfl oa.o ⟨l7,0,none⟩ 1 1 [.slice (some ⟨rb,0,none⟩) m m] rfl rfl (Kw c7.o.1) (Ci.AM _ rfl) (by omega) (by unfold maxLen;omega) (by omega) (zS aB.o hg.o.k.size) ?_;intro vx wx ao ag an;obtain⟨A9,c9,rfl⟩:=DQ ao;have ak:=zh (hg.o.b.grown ag (fun e=>nga.o e.symm));have aq:=zh (hg.o.y.grown ag (fun e=>nxa.o e.symm));have aw:=zh (Ir hg.o.k ag aH.o);have aA:=zh (ob.o.kept ag (by cases e:(Value.slice Ab i cb).ownBlock with|none=>exact .inl rfl|some b=>exact .inr (fun e2=>ap.o b e2.symm e)));have aC:Hid ((Value.slice A9 (i+1) c9).ownBlock=(Value.slice Aa i ca).ownBlock\/∃b,(Value.slice A9 (i+1) c9).ownBlock=some b/\w.heap.size<=b):=an.imp id fun e=>⟨_,e,hg.o.k.size⟩;have az:Hid (∀b,(Value.slice A9 (i+1) c9).ownBlock=some b->(Value.slice Ab i cb).ownBlock≠some b):=fun b e e2=>by rcases an with c|c;(· exact ap.o b (c▸e) e2);(· rw[c]at e;cases e;have:=(ob.o.lt _ e2).2;omega)
   refine hK.o _ _ (Ah ak.o) (fun _=>?_);clear hK K
   try simp only[Act.put,zA,zF,zE]
   rw[<-hF.o];have hl:=Lx5x7x8x12 l7 A9 c9 wx (zh ⟨aw.o,aq.o,ak.o⟩) (zh ao) aC aA az;rw[ad.o]at hl;exact hl
  refine zK (o:=_) rfl (fun K hK=>?_) ?_
  .go_simp;refine hK.o _ _ (Ah (hg.o.b.alloc _)) (fun _=>?_);clear hK K
   try simp only[zA,zF,zE]
   rw[<-hF.o];have hl:=Lx5x7x12x14 l7 W.heap.size (W.alloc (.cells #[.bool x.1,.string x.2.1,.string x.2.2] 48)) (zh ((hg.o.alloc _))) (zh ((oa.o.alloc _))) (zh ((ob.o.alloc _))) (zh (ap.o)) (zh (⟨(yI _ _ _ c7.o.2.2).trans c7.o.1,c7.o.2.1,by rw[zX];exact xf c7.o.2.2⟩)) (zh (⟨⟨(Bk.new W 48 [.bool x.1,.string x.2.1,.string x.2.2]).c0,(Bk.new W 48 [.bool x.1,.string x.2.1,.string x.2.2]).c1,(Bk.new W 48 [.bool x.1,.string x.2.1,.string x.2.2]).c2⟩,hg.o.k.size,by rw[zX];exact zo _⟩));rw[ad.o]at hl;exact hl
  exact zR
 have Lx5x7x8x14:∀(l7:Nat)(Aa2:Option Addr)(ae:Nat)(aa:Nat)(W:World),Hid (G22 xb gb uv Aa Ab i ca cb x w W)->Hid (W.ownsRow B1 39 1 (Value.slice Aa2 (i+1) ae) (i+1) (ai++[.slice (some ⟨rb,0,none⟩) m m]))->Hid ((Value.slice Aa2 (i+1) ae).ownBlock=(Value.slice Aa i ca).ownBlock\/∃b,(Value.slice Aa2 (i+1) ae).ownBlock=some b/\w.heap.size<=b)->Hid (W.ownsRow B1 48 3 (Value.slice Ab i cb) i cbs)->Hid (∀b,(Value.slice Aa2 (i+1) ae).ownBlock=some b->(Value.slice Ab i cb).ownBlock≠some b)->Hid ((W.cell? ⟨aa,0,none⟩=some (.bool x.1)/\W.cell? ⟨aa,1,none⟩=some (.string x.2.1)/\W.cell? ⟨aa,2,none⟩=some (.string x.2.2))/\w.heap.size<=aa/\aa<W.heap.size)->F 8 #[true,true,true,true,true,true,true,true,true,true,true,true,false,true,true,false,false,false,false,false,false,false] (fr (.slice Aa i ca) (.slice (some ⟨l7,0,none⟩) 1 1) (.slice Aa2 (i+1) ae) au (.slice (some ⟨aa,0,none⟩) 1 1) af) W:=by
  intro l7 Aa2 ae aa W hg oa na ob ap ab;rw[hF.o,ad.o];dsimp only;refine zU (rs:=[12]) (by kernel_rfl) (by simp) ?_;have x1:=hg.o.y.c2;have x9:=hg.o.y.lt;refine zK (o:=_) rfl (fun K hK=>?_) ?_
  .go_simp;clear x1 x9;refine hK.o _ _ (Ah hg.o.b) (fun _=>?_);clear hK K
   try simp only[zA,zF,zE]
   rw[<-hF.o];have hl:=Lx5x7x8x12x14 l7 Aa2 ae aa W hg oa na ob ap ab;rw[ad.o]at hl;exact hl
  clear x1 x9;exact zR
 have Lx5x7x14:∀(l7:Nat)(aa:Nat)(W:World),Hid (G22 xb gb uv Aa Ab i ca cb x w W)->Hid (W.ownsRow B1 39 1 (Value.slice Aa i ca) i ai)->Hid (W.ownsRow B1 48 3 (Value.slice Ab i cb) i cbs)->Hid (∀b,(Value.slice Aa i ca).ownBlock=some b->(Value.slice Ab i cb).ownBlock≠some b)->Hid (W.cell? ⟨l7,0,none⟩=some (.slice (some ⟨rb,0,none⟩) m m)/\w.heap.size<=l7/\l7<W.heap.size)->Hid ((W.cell? ⟨aa,0,none⟩=some (.bool x.1)/\W.cell? ⟨aa,1,none⟩=some (.string x.2.1)/\W.cell? ⟨aa,2,none⟩=some (.string x.2.2))/\w.heap.size<=aa/\aa<W.heap.size)->F 9 #[true,true,true,true,true,true,true,true,false,true,true,true,false,true,true,false,false,false,false,false,false,false] (fr (.slice Aa i ca) (.slice (some ⟨l7,0,none⟩) 1 1) am au (.slice (some ⟨aa,0,none⟩) 1 1) af) W:=by
  intro l7 aa W hg oa ob ap c7 ab;rw[hF.o,ad.o];dsimp only;refine zU (rs:=[8,12]) (by kernel_rfl) (by simp) ?_;refine zK (o:=_) rfl (fun K hK=>?_) ?_
  .rw [zD (by rfl)];refine Nt.AI _ _ _ 82 rfl B1 39 i0 (.slice none 0 0) 1 24 underlying82 aD.o z0i0.o z1i0.o z2i0.o rfl (by decide) (.slice Aa i ca) i ai rfl oa.o ⟨l7,0,none⟩ 1 1 [.slice (some ⟨rb,0,none⟩) m m] rfl rfl (Kw c7.o.1) (Ci.AM _ rfl) (by omega) (by unfold maxLen;omega) (by omega) (zS aB.o hg.o.k.size) ?_;intro vx wx ao ag an;obtain⟨A9,c9,rfl⟩:=DQ ao;have ak:=zh (hg.o.b.grown ag (fun e=>nga.o e.symm));have aq:=zh (hg.o.y.grown ag (fun e=>nxa.o e.symm));have aw:=zh (Ir hg.o.k ag aH.o);have aA:=zh (ob.o.kept ag (by cases e:(Value.slice Ab i cb).ownBlock with|none=>exact .inl rfl|some b=>exact .inr (fun e2=>ap.o b e2.symm e)));have aC:Hid ((Value.slice A9 (i+1) c9).ownBlock=(Value.slice Aa i ca).ownBlock\/∃b,(Value.slice A9 (i+1) c9).ownBlock=some b/\w.heap.size<=b):=an.imp id fun e=>⟨_,e,hg.o.k.size⟩;have az:Hid (∀b,(Value.slice A9 (i+1) c9).ownBlock=some b->(Value.slice Ab i cb).ownBlock≠some b):=fun b e e2=>by rcases an with c|c;(· exact ap.o b (c▸e) e2);(· rw[c]at e;cases e;have:=(ob.o.lt _ e2).2;omega)
   have aF:Hid (((wx.cell? ⟨aa,0,none⟩=some (.bool x.1)/\wx.cell? ⟨aa,1,none⟩=some (.string x.2.1)/\wx.cell? ⟨aa,2,none⟩=some (.string x.2.2))/\w.heap.size<=aa/\aa<wx.heap.size)):=by
    have av:=ag.block aa ab.o.2.2 (fun e=>by have:=(b6.o _ e.symm).2;have:=ab.o.2.1;omega);exact⟨⟨(zT (a:=⟨aa,0,none⟩) av).trans ab.o.1.1,(zT (a:=⟨aa,1,none⟩) av).trans ab.o.1.2.1,(zT (a:=⟨aa,2,none⟩) av).trans ab.o.1.2.2⟩,ab.o.2.1,zJ ab.o.2.2 ag.size⟩
   refine hK.o _ _ (Ah ak.o) (fun _=>?_);clear hK K
   try simp only[Act.put,zA,zF,zE]
   rw[<-hF.o];have hl:=Lx5x7x8x14 l7 A9 c9 aa wx (zh ⟨aw.o,aq.o,ak.o⟩) (zh ao) aC aA az aF;rw[ad.o]at hl;exact hl
  have x1:=hg.o.y.c2;have x9:=hg.o.y.lt;refine zK (o:=_) rfl (fun K hK=>?_) ?_
  .go_simp;clear x1 x9;refine hK.o _ _ (Ah hg.o.b) (fun _=>?_);clear hK K
   try simp only[zA,zF,zE]
   rw[<-hF.o];have hl:=Lx5x7x12x14 l7 aa W hg oa ob ap c7 ab;rw[ad.o]at hl;exact hl
  clear x1 x9;exact zR
 have Lx5x7x8:∀(l7:Nat)(Aa2:Option Addr)(ae:Nat)(W:World),Hid (G22 xb gb uv Aa Ab i ca cb x w W)->Hid (W.ownsRow B1 39 1 (Value.slice Aa2 (i+1) ae) (i+1) (ai++[.slice (some ⟨rb,0,none⟩) m m]))->Hid ((Value.slice Aa2 (i+1) ae).ownBlock=(Value.slice Aa i ca).ownBlock\/∃b,(Value.slice Aa2 (i+1) ae).ownBlock=some b/\w.heap.size<=b)->Hid (W.ownsRow B1 48 3 (Value.slice Ab i cb) i cbs)->Hid (∀b,(Value.slice Aa2 (i+1) ae).ownBlock=some b->(Value.slice Ab i cb).ownBlock≠some b)->F 9 #[true,true,true,true,true,true,true,true,true,true,true,true,false,true,false,false,false,false,false,false,false,false] (fr (.slice Aa i ca) (.slice (some ⟨l7,0,none⟩) 1 1) (.slice Aa2 (i+1) ae) au al af) W:=by
  intro l7 Aa2 ae W hg oa na ob ap;rw[hF.o,ad.o];dsimp only;refine zU (rs:=[12,14]) (by kernel_rfl) (by simp) ?_;have x1:=hg.o.y.c2;have x9:=hg.o.y.lt;refine zK (o:=_) rfl (fun K hK=>?_) ?_
  .go_simp;clear x1 x9;refine hK.o _ _ (Ah hg.o.b) (fun _=>?_);clear hK K
   try simp only[zA,zF,zE]
   rw[<-hF.o];have hl:=Lx5x7x8x12 l7 Aa2 ae W hg oa na ob ap;rw[ad.o]at hl;exact hl
  clear x1 x9;refine zK (o:=_) rfl (fun K hK=>?_) ?_
  .go_simp;refine hK.o _ _ (Ah (hg.o.b.alloc _)) (fun _=>?_);clear hK K
   try simp only[zA,zF,zE]
   rw[<-hF.o];have hl:=Lx5x7x8x14 l7 Aa2 ae W.heap.size (W.alloc (.cells #[.bool x.1,.string x.2.1,.string x.2.2] 48)) (zh ((hg.o.alloc _))) (zh ((oa.o.alloc _))) (zh (na.o)) (zh ((ob.o.alloc _))) (zh (ap.o)) (zh (⟨⟨(Bk.new W 48 [.bool x.1,.string x.2.1,.string x.2.2]).c0,(Bk.new W 48 [.bool x.1,.string x.2.1,.string x.2.2]).c1,(Bk.new W 48 [.bool x.1,.string x.2.1,.string x.2.2]).c2⟩,hg.o.k.size,by rw[zX];exact zo _⟩));rw[ad.o]at hl;exact hl
  exact zR
 have Lx5x7:∀(l7:Nat)(W:World),Hid (G22 xb gb uv Aa Ab i ca cb x w W)->Hid (W.ownsRow B1 39 1 (Value.slice Aa i ca) i ai)->Hid (W.ownsRow B1 48 3 (Value.slice Ab i cb) i cbs)->Hid (∀b,(Value.slice Aa i ca).ownBlock=some b->(Value.slice Ab i cb).ownBlock≠some b)->Hid (W.cell? ⟨l7,0,none⟩=some (.slice (some ⟨rb,0,none⟩) m m)/\w.heap.size<=l7/\l7<W.heap.size)->F 10 #[true,true,true,true,true,true,true,true,false,true,true,true,false,true,false,false,false,false,false,false,false,false] (fr (.slice Aa i ca) (.slice (some ⟨l7,0,none⟩) 1 1) am au al af) W:=by
  intro l7 W hg oa ob ap c7;rw[hF.o,ad.o];dsimp only;refine zU (rs:=[8,12,14]) (by kernel_rfl) (by simp) ?_;refine zK (o:=_) rfl (fun K hK=>?_) ?_
  .rw[zD (by rfl)];refine Nt.AI _ _ _ 82 rfl B1 39 i0 (.slice none 0 0) 1 24 underlying82 aD.o z0i0.o z1i0.o z2i0.o rfl (by decide) (.slice Aa i ca) i ai rfl oa.o ⟨l7,0,none⟩ 1 1 [.slice (some ⟨rb,0,none⟩) m m] rfl rfl (Kw c7.o.1) (Ci.AM _ rfl) (by omega) (by unfold maxLen;omega) (by omega) (zS aB.o hg.o.k.size) ?_;intro vx wx ao ag an;obtain⟨A9,c9,rfl⟩:=DQ ao;have ak:=zh (hg.o.b.grown ag (fun e=>nga.o e.symm));have aq:=zh (hg.o.y.grown ag (fun e=>nxa.o e.symm));have aw:=zh (Ir hg.o.k ag aH.o);have aA:=zh (ob.o.kept ag (by cases e:(Value.slice Ab i cb).ownBlock with|none=>exact .inl rfl|some b=>exact .inr (fun e2=>ap.o b e2.symm e)));have aC:Hid ((Value.slice A9 (i+1) c9).ownBlock=(Value.slice Aa i ca).ownBlock\/∃b,(Value.slice A9 (i+1) c9).ownBlock=some b/\w.heap.size<=b):=an.imp id fun e=>⟨_,e,hg.o.k.size⟩;have az:Hid (∀b,(Value.slice A9 (i+1) c9).ownBlock=some b->(Value.slice Ab i cb).ownBlock≠some b):=fun b e e2=>by rcases an with c|c;(· exact ap.o b (c▸e) e2);(· rw[c]at e;cases e;have:=(ob.o.lt _ e2).2;omega)
   refine hK.o _ _ (Ah ak.o) (fun _=>?_);clear hK K
   try simp only[Act.put,zA,zF,zE]
   rw[<-hF.o];have hl:=Lx5x7x8 l7 A9 c9 wx (zh ⟨aw.o,aq.o,ak.o⟩) (zh ao) aC aA az;rw[ad.o]at hl;exact hl
  have x1:=hg.o.y.c2;have x9:=hg.o.y.lt;refine zK (o:=_) rfl (fun K hK=>?_) ?_
  .go_simp;clear x1 x9;refine hK.o _ _ (Ah hg.o.b) (fun _=>?_);clear hK K
   try simp only[zA,zF,zE]
   rw[<-hF.o];have hl:=Lx5x7x12 l7 W hg oa ob ap c7;rw[ad.o]at hl;exact hl
  clear x1 x9;refine zK (o:=_) rfl (fun K hK=>?_) ?_
  .go_simp;refine hK.o _ _ (Ah (hg.o.b.alloc _)) (fun _=>?_);clear hK K
   try simp only[zA,zF,zE]
   rw[<-hF.o];have hl:=Lx5x7x14 l7 W.heap.size (W.alloc (.cells #[.bool x.1,.string x.2.1,.string x.2.2] 48)) (zh ((hg.o.alloc _))) (zh ((oa.o.alloc _))) (zh ((ob.o.alloc _))) (zh (ap.o)) (zh (⟨(yI _ _ _ c7.o.2.2).trans c7.o.1,c7.o.2.1,by rw[zX];exact xf c7.o.2.2⟩)) (zh (⟨⟨(Bk.new W 48 [.bool x.1,.string x.2.1,.string x.2.2]).c0,(Bk.new W 48 [.bool x.1,.string x.2.1,.string x.2.2]).c1,(Bk.new W 48 [.bool x.1,.string x.2.1,.string x.2.2]).c2⟩,hg.o.k.size,by rw[zX];exact zo _⟩));rw[ad.o]at hl;exact hl
  exact zR
 have Lx5x12x14:∀(aa:Nat)(W:World),Hid (G22 xb gb uv Aa Ab i ca cb x w W)->Hid (W.ownsRow B1 39 1 (Value.slice Aa i ca) i ai)->Hid (W.ownsRow B1 48 3 (Value.slice Ab i cb) i cbs)->Hid (∀b,(Value.slice Aa i ca).ownBlock=some b->(Value.slice Ab i cb).ownBlock≠some b)->Hid ((W.cell? ⟨aa,0,none⟩=some (.bool x.1)/\W.cell? ⟨aa,1,none⟩=some (.string x.2.1)/\W.cell? ⟨aa,2,none⟩=some (.string x.2.2))/\w.heap.size<=aa/\aa<W.heap.size)->F 9 #[true,true,true,true,true,true,true,false,false,true,true,true,true,true,true,false,false,false,false,false,false,false] (fr (.slice Aa i ca) ay am (.slice Ab i cb) (.slice (some ⟨aa,0,none⟩) 1 1) af) W:=by
  intro aa W hg oa ob ap ab;rw[hF.o,ad.o];dsimp only;refine zU (rs:=[7]) (by kernel_rfl) (by simp) ?_;refine zK (o:=_) rfl (fun K hK=>?_) ?_
  .go_simp;refine hK.o _ _ (Ah (hg.o.b.alloc _)) (fun _=>?_);clear hK K
   try simp only[zA,zF,zE]
   rw[<-hF.o];have hl:=Lx5x7x12x14 W.heap.size aa (W.alloc (.cells #[.slice (some ⟨rb,0,none⟩) m m] 39)) (zh ((hg.o.alloc _))) (zh ((oa.o.alloc _))) (zh ((ob.o.alloc _))) (zh (ap.o)) (zh (⟨(Bk.new W 39 [.slice (some ⟨rb,0,none⟩) m m]).c0,hg.o.k.size,by rw[zX];exact zo _⟩)) (zh (⟨⟨(yI _ _ _ ab.o.2.2).trans ab.o.1.1,(yI _ _ _ ab.o.2.2).trans ab.o.1.2.1,(yI _ _ _ ab.o.2.2).trans ab.o.1.2.2⟩,ab.o.2.1,by rw[zX];exact xf ab.o.2.2⟩));rw[ad.o]at hl;exact hl
  exact zR
 have Lx5x12:∀(W:World),Hid (G22 xb gb uv Aa Ab i ca cb x w W)->Hid (W.ownsRow B1 39 1 (Value.slice Aa i ca) i ai)->Hid (W.ownsRow B1 48 3 (Value.slice Ab i cb) i cbs)->Hid (∀b,(Value.slice Aa i ca).ownBlock=some b->(Value.slice Ab i cb).ownBlock≠some b)->F 10 #[true,true,true,true,true,true,true,false,false,true,true,true,true,true,false,false,false,false,false,false,false,false] (fr (.slice Aa i ca) ay am (.slice Ab i cb) al af) W:=by
  intro  W hg oa ob ap;rw[hF.o,ad.o];dsimp only;refine zU (rs:=[7,14]) (by kernel_rfl) (by simp) ?_;refine zK (o:=_) rfl (fun K hK=>?_) ?_
  .go_simp;refine hK.o _ _ (Ah (hg.o.b.alloc _)) (fun _=>?_);clear hK K
   try simp only[zA,zF,zE]
   rw[<-hF.o];have hl:=Lx5x7x12 W.heap.size (W.alloc (.cells #[.slice (some ⟨rb,0,none⟩) m m] 39)) (zh ((hg.o.alloc _))) (zh ((oa.o.alloc _))) (zh ((ob.o.alloc _))) (zh (ap.o)) (zh (⟨(Bk.new W 39 [.slice (some ⟨rb,0,none⟩) m m]).c0,hg.o.k.size,by rw[zX];exact zo _⟩));rw[ad.o]at hl;exact hl
  refine zK (o:=_) rfl (fun K hK=>?_) ?_
  .go_simp;refine hK.o _ _ (Ah (hg.o.b.alloc _)) (fun _=>?_);clear hK K
   try simp only[zA,zF,zE]
   rw[<-hF.o];have hl:=Lx5x12x14 W.heap.size (W.alloc (.cells #[.bool x.1,.string x.2.1,.string x.2.2] 48)) (zh ((hg.o.alloc _))) (zh ((oa.o.alloc _))) (zh ((ob.o.alloc _))) (zh (ap.o)) (zh (⟨⟨(Bk.new W 48 [.bool x.1,.string x.2.1,.string x.2.2]).c0,(Bk.new W 48 [.bool x.1,.string x.2.1,.string x.2.2]).c1,(Bk.new W 48 [.bool x.1,.string x.2.1,.string x.2.2]).c2⟩,hg.o.k.size,by rw[zX];exact zo _⟩));rw[ad.o]at hl;exact hl
  exact zR
 have Lx5x14:∀(aa:Nat)(W:World),Hid (G22 xb gb uv Aa Ab i ca cb x w W)->Hid (W.ownsRow B1 39 1 (Value.slice Aa i ca) i ai)->Hid (W.ownsRow B1 48 3 (Value.slice Ab i cb) i cbs)->Hid (∀b,(Value.slice Aa i ca).ownBlock=some b->(Value.slice Ab i cb).ownBlock≠some b)->Hid ((W.cell? ⟨aa,0,none⟩=some (.bool x.1)/\W.cell? ⟨aa,1,none⟩=some (.string x.2.1)/\W.cell? ⟨aa,2,none⟩=some (.string x.2.2))/\w.heap.size<=aa/\aa<W.heap.size)->F 10 #[true,true,true,true,true,true,true,false,false,true,true,true,false,true,true,false,false,false,false,false,false,false] (fr (.slice Aa i ca) ay am au (.slice (some ⟨aa,0,none⟩) 1 1) af) W:=by
  intro aa W hg oa ob ap ab;rw[hF.o,ad.o];dsimp only;refine zU (rs:=[7,12]) (by kernel_rfl) (by simp) ?_;refine zK (o:=_) rfl (fun K hK=>?_) ?_
  .go_simp;refine hK.o _ _ (Ah (hg.o.b.alloc _)) (fun _=>?_);clear hK K
   try simp only[zA,zF,zE]
   rw[<-hF.o];have hl:=Lx5x7x14 W.heap.size aa (W.alloc (.cells #[.slice (some ⟨rb,0,none⟩) m m] 39)) (zh ((hg.o.alloc _))) (zh ((oa.o.alloc _))) (zh ((ob.o.alloc _))) (zh (ap.o)) (zh (⟨(Bk.new W 39 [.slice (some ⟨rb,0,none⟩) m m]).c0,hg.o.k.size,by rw[zX];exact zo _⟩)) (zh (⟨⟨(yI _ _ _ ab.o.2.2).trans ab.o.1.1,(yI _ _ _ ab.o.2.2).trans ab.o.1.2.1,(yI _ _ _ ab.o.2.2).trans ab.o.1.2.2⟩,ab.o.2.1,by rw[zX];exact xf ab.o.2.2⟩));rw[ad.o]at hl;exact hl
  have x1:=hg.o.y.c2;have x9:=hg.o.y.lt;refine zK (o:=_) rfl (fun K hK=>?_) ?_
  .go_simp;clear x1 x9;refine hK.o _ _ (Ah hg.o.b) (fun _=>?_);clear hK K
   try simp only[zA,zF,zE]
   rw[<-hF.o];have hl:=Lx5x12x14 aa W hg oa ob ap ab;rw[ad.o]at hl;exact hl
  clear x1 x9;exact zR
 have Lx5:∀(W:World),Hid (G22 xb gb uv Aa Ab i ca cb x w W)->Hid (W.ownsRow B1 39 1 (Value.slice Aa i ca) i ai)->Hid (W.ownsRow B1 48 3 (Value.slice Ab i cb) i cbs)->Hid (∀b,(Value.slice Aa i ca).ownBlock=some b->(Value.slice Ab i cb).ownBlock≠some b)->F 11 #[true,true,true,true,true,true,true,false,false,true,true,true,false,true,false,false,false,false,false,false,false,false] (fr (.slice Aa i ca) ay am au al af) W:=by
  intro  W hg oa ob ap;rw[hF.o,ad.o];dsimp only;refine zU (rs:=[7,12,14]) (by kernel_rfl) (by simp) ?_;refine zK (o:=_) rfl (fun K hK=>?_) ?_
  .go_simp;refine hK.o _ _ (Ah (hg.o.b.alloc _)) (fun _=>?_);clear hK K
   try simp only[zA,zF,zE]
   rw[<-hF.o];have hl:=Lx5x7 W.heap.size (W.alloc (.cells #[.slice (some ⟨rb,0,none⟩) m m] 39)) (zh ((hg.o.alloc _))) (zh ((oa.o.alloc _))) (zh ((ob.o.alloc _))) (zh (ap.o)) (zh (⟨(Bk.new W 39 [.slice (some ⟨rb,0,none⟩) m m]).c0,hg.o.k.size,by rw[zX];exact zo _⟩));rw[ad.o]at hl;exact hl
  have x1:=hg.o.y.c2;have x9:=hg.o.y.lt;refine zK (o:=_) rfl (fun K hK=>?_) ?_
  .go_simp;clear x1 x9;refine hK.o _ _ (Ah hg.o.b) (fun _=>?_);clear hK K
   try simp only[zA,zF,zE]
   rw[<-hF.o];have hl:=Lx5x12  W hg oa ob ap;rw[ad.o]at hl;exact hl
  clear x1 x9;refine zK (o:=_) rfl (fun K hK=>?_) ?_
  .go_simp;refine hK.o _ _ (Ah (hg.o.b.alloc _)) (fun _=>?_);clear hK K
   try simp only[zA,zF,zE]
   rw[<-hF.o];have hl:=Lx5x14 W.heap.size (W.alloc (.cells #[.bool x.1,.string x.2.1,.string x.2.2] 48)) (zh ((hg.o.alloc _))) (zh ((oa.o.alloc _))) (zh ((ob.o.alloc _))) (zh (ap.o)) (zh (⟨⟨(Bk.new W 48 [.bool x.1,.string x.2.1,.string x.2.2]).c0,(Bk.new W 48 [.bool x.1,.string x.2.1,.string x.2.2]).c1,(Bk.new W 48 [.bool x.1,.string x.2.1,.string x.2.2]).c2⟩,hg.o.k.size,by rw[zX];exact zo _⟩));rw[ad.o]at hl;exact hl
  exact zR
 have Lx7x12x14:∀(l7:Nat)(aa:Nat)(W:World),Hid (G22 xb gb uv Aa Ab i ca cb x w W)->Hid (W.ownsRow B1 39 1 (Value.slice Aa i ca) i ai)->Hid (W.ownsRow B1 48 3 (Value.slice Ab i cb) i cbs)->Hid (∀b,(Value.slice Aa i ca).ownBlock=some b->(Value.slice Ab i cb).ownBlock≠some b)->Hid (W.cell? ⟨l7,0,none⟩=some (.slice (some ⟨rb,0,none⟩) m m)/\w.heap.size<=l7/\l7<W.heap.size)->Hid ((W.cell? ⟨aa,0,none⟩=some (.bool x.1)/\W.cell? ⟨aa,1,none⟩=some (.string x.2.1)/\W.cell? ⟨aa,2,none⟩=some (.string x.2.2))/\w.heap.size<=aa/\aa<W.heap.size)->F 9 #[true,true,true,true,true,false,true,true,false,true,true,true,true,true,true,false,false,false,false,false,false,false] (fr ax (.slice (some ⟨l7,0,none⟩) 1 1) am (.slice Ab i cb) (.slice (some ⟨aa,0,none⟩) 1 1) af) W:=by
  intro l7 aa W hg oa ob ap c7 ab;rw[hF.o,ad.o];dsimp only;refine zU (rs:=[5]) (by kernel_rfl) (by simp) ?_;have x1:=hg.o.y.c1;have x9:=hg.o.y.lt;refine zK (o:=_) rfl (fun K hK=>?_) ?_
  .go_simp;clear x1 x9;refine hK.o _ _ (Ah hg.o.b) (fun _=>?_);clear hK K
   try simp only[zA,zF,zE]
   rw[<-hF.o];have hl:=Lx5x7x12x14 l7 aa W hg oa ob ap c7 ab;rw[ad.o]at hl;exact hl
  clear x1 x9;exact zR
 have Lx7x12:∀(l7:Nat)(W:World),Hid (G22 xb gb uv Aa Ab i ca cb x w W)->Hid (W.ownsRow B1 39 1 (Value.slice Aa i ca) i ai)->Hid (W.ownsRow B1 48 3 (Value.slice Ab i cb) i cbs)->Hid (∀b,(Value.slice Aa i ca).ownBlock=some b->(Value.slice Ab i cb).ownBlock≠some b)->Hid (W.cell? ⟨l7,0,none⟩=some (.slice (some ⟨rb,0,none⟩) m m)/\w.heap.size<=l7/\l7<W.heap.size)->F 10 #[true,true,true,true,true,false,true,true,false,true,true,true,true,true,false,false,false,false,false,false,false,false] (fr ax (.slice (some ⟨l7,0,none⟩) 1 1) am (.slice Ab i cb) al af) W:=by
  intro l7 W hg oa ob ap c7;rw[hF.o,ad.o];dsimp only;refine zU (rs:=[5,14]) (by kernel_rfl) (by simp) ?_;have x1:=hg.o.y.c1;have x9:=hg.o.y.lt;refine zK (o:=_) rfl (fun K hK=>?_) ?_
  .go_simp;clear x1 x9;refine hK.o _ _ (Ah hg.o.b) (fun _=>?_);clear hK K
   try simp only[zA,zF,zE]
   rw[<-hF.o];have hl:=Lx5x7x12 l7 W hg oa ob ap c7;rw[ad.o]at hl;exact hl
  clear x1 x9;refine zK (o:=_) rfl (fun K hK=>?_) ?_
  .go_simp;refine hK.o _ _ (Ah (hg.o.b.alloc _)) (fun _=>?_);clear hK K
   try simp only[zA,zF,zE]
   rw[<-hF.o];have hl:=Lx7x12x14 l7 W.heap.size (W.alloc (.cells #[.bool x.1,.string x.2.1,.string x.2.2] 48)) (zh ((hg.o.alloc _))) (zh ((oa.o.alloc _))) (zh ((ob.o.alloc _))) (zh (ap.o)) (zh (⟨(yI _ _ _ c7.o.2.2).trans c7.o.1,c7.o.2.1,by rw[zX];exact xf c7.o.2.2⟩)) (zh (⟨⟨(Bk.new W 48 [.bool x.1,.string x.2.1,.string x.2.2]).c0,(Bk.new W 48 [.bool x.1,.string x.2.1,.string x.2.2]).c1,(Bk.new W 48 [.bool x.1,.string x.2.1,.string x.2.2]).c2⟩,hg.o.k.size,by rw[zX];exact zo _⟩));rw[ad.o]at hl;exact hl
  exact zR
 have Lx7x14:∀(l7:Nat)(aa:Nat)(W:World),Hid (G22 xb gb uv Aa Ab i ca cb x w W)->Hid (W.ownsRow B1 39 1 (Value.slice Aa i ca) i ai)->Hid (W.ownsRow B1 48 3 (Value.slice Ab i cb) i cbs)->Hid (∀b,(Value.slice Aa i ca).ownBlock=some b->(Value.slice Ab i cb).ownBlock≠some b)->Hid (W.cell? ⟨l7,0,none⟩=some (.slice (some ⟨rb,0,none⟩) m m)/\w.heap.size<=l7/\l7<W.heap.size)->Hid ((W.cell? ⟨aa,0,none⟩=some (.bool x.1)/\W.cell? ⟨aa,1,none⟩=some (.string x.2.1)/\W.cell? ⟨aa,2,none⟩=some (.string x.2.2))/\w.heap.size<=aa/\aa<W.heap.size)->F 10 #[true,true,true,true,true,false,true,true,false,true,true,true,false,true,true,false,false,false,false,false,false,false] (fr ax (.slice (some ⟨l7,0,none⟩) 1 1) am au (.slice (some ⟨aa,0,none⟩) 1 1) af) W:=by
  intro l7 aa W hg oa ob ap c7 ab;rw[hF.o,ad.o];dsimp only;refine zU (rs:=[5,12]) (by kernel_rfl) (by simp) ?_;have x1:=hg.o.y.c1;have x9:=hg.o.y.lt;refine zK (o:=_) rfl (fun K hK=>?_) ?_
  .go_simp;clear x1 x9;refine hK.o _ _ (Ah hg.o.b) (fun _=>?_);clear hK K
   try simp only[zA,zF,zE]
   rw[<-hF.o];have hl:=Lx5x7x14 l7 aa W hg oa ob ap c7 ab;rw[ad.o]at hl;exact hl
  clear x1 x9;have x1:=hg.o.y.c2;have x9:=hg.o.y.lt;refine zK (o:=_) rfl (fun K hK=>?_) ?_
  .go_simp;clear x1 x9;refine hK.o _ _ (Ah hg.o.b) (fun _=>?_);clear hK K
   try simp only[zA,zF,zE]
   rw[<-hF.o];have hl:=Lx7x12x14 l7 aa W hg oa ob ap c7 ab;rw[ad.o]at hl;exact hl
  clear x1 x9;exact zR
 have Lx7:∀(l7:Nat)(W:World),Hid (G22 xb gb uv Aa Ab i ca cb x w W)->Hid (W.ownsRow B1 39 1 (Value.slice Aa i ca) i ai)->Hid (W.ownsRow B1 48 3 (Value.slice Ab i cb) i cbs)->Hid (∀b,(Value.slice Aa i ca).ownBlock=some b->(Value.slice Ab i cb).ownBlock≠some b)->Hid (W.cell? ⟨l7,0,none⟩=some (.slice (some ⟨rb,0,none⟩) m m)/\w.heap.size<=l7/\l7<W.heap.size)->F 11 #[true,true,true,true,true,false,true,true,false,true,true,true,false,true,false,false,false,false,false,false,false,false] (fr ax (.slice (some ⟨l7,0,none⟩) 1 1) am au al af) W:=by
  intro l7 W hg oa ob ap c7;rw[hF.o,ad.o];dsimp only;refine zU (rs:=[5,12,14]) (by kernel_rfl) (by simp) ?_;have x1:=hg.o.y.c1;have x9:=hg.o.y.lt;refine zK (o:=_) rfl (fun K hK=>?_) ?_
  .go_simp;clear x1 x9;refine hK.o _ _ (Ah hg.o.b) (fun _=>?_);clear hK K
   try simp only[zA,zF,zE]
   rw[<-hF.o];have hl:=Lx5x7 l7 W hg oa ob ap c7;rw[ad.o]at hl;exact hl
  clear x1 x9;have x1:=hg.o.y.c2;have x9:=hg.o.y.lt;refine zK (o:=_) rfl (fun K hK=>?_) ?_
  .go_simp;clear x1 x9;refine hK.o _ _ (Ah hg.o.b) (fun _=>?_);clear hK K
   try simp only[zA,zF,zE]
   rw[<-hF.o];have hl:=Lx7x12 l7 W hg oa ob ap c7;rw[ad.o]at hl;exact hl
  clear x1 x9;refine zK (o:=_) rfl (fun K hK=>?_) ?_
  .go_simp;refine hK.o _ _ (Ah (hg.o.b.alloc _)) (fun _=>?_);clear hK K
   try simp only[zA,zF,zE]
   rw[<-hF.o];have hl:=Lx7x14 l7 W.heap.size (W.alloc (.cells #[.bool x.1,.string x.2.1,.string x.2.2] 48)) (zh ((hg.o.alloc _))) (zh ((oa.o.alloc _))) (zh ((ob.o.alloc _))) (zh (ap.o)) (zh (⟨(yI _ _ _ c7.o.2.2).trans c7.o.1,c7.o.2.1,by rw[zX];exact xf c7.o.2.2⟩)) (zh (⟨⟨(Bk.new W 48 [.bool x.1,.string x.2.1,.string x.2.2]).c0,(Bk.new W 48 [.bool x.1,.string x.2.1,.string x.2.2]).c1,(Bk.new W 48 [.bool x.1,.string x.2.1,.string x.2.2]).c2⟩,hg.o.k.size,by rw[zX];exact zo _⟩));rw[ad.o]at hl;exact hl
  exact zR
 have Lx12x14:∀(aa:Nat)(W:World),Hid (G22 xb gb uv Aa Ab i ca cb x w W)->Hid (W.ownsRow B1 39 1 (Value.slice Aa i ca) i ai)->Hid (W.ownsRow B1 48 3 (Value.slice Ab i cb) i cbs)->Hid (∀b,(Value.slice Aa i ca).ownBlock=some b->(Value.slice Ab i cb).ownBlock≠some b)->Hid ((W.cell? ⟨aa,0,none⟩=some (.bool x.1)/\W.cell? ⟨aa,1,none⟩=some (.string x.2.1)/\W.cell? ⟨aa,2,none⟩=some (.string x.2.2))/\w.heap.size<=aa/\aa<W.heap.size)->F 10 #[true,true,true,true,true,false,true,false,false,true,true,true,true,true,true,false,false,false,false,false,false,false] (fr ax ay am (.slice Ab i cb) (.slice (some ⟨aa,0,none⟩) 1 1) af) W:=by
  intro aa W hg oa ob ap ab;rw[hF.o,ad.o];dsimp only;refine zU (rs:=[5,7]) (by kernel_rfl) (by simp) ?_;have x1:=hg.o.y.c1;have x9:=hg.o.y.lt;refine zK (o:=_) rfl (fun K hK=>?_) ?_
  .go_simp;clear x1 x9;refine hK.o _ _ (Ah hg.o.b) (fun _=>?_);clear hK K
   try simp only[zA,zF,zE]
   rw[<-hF.o];have hl:=Lx5x12x14 aa W hg oa ob ap ab;rw[ad.o]at hl;exact hl
  clear x1 x9;refine zK (o:=_) rfl (fun K hK=>?_) ?_
  .go_simp;refine hK.o _ _ (Ah (hg.o.b.alloc _)) (fun _=>?_);clear hK K
   try simp only[zA,zF,zE]
   rw[<-hF.o];have hl:=Lx7x12x14 W.heap.size aa (W.alloc (.cells #[.slice (some ⟨rb,0,none⟩) m m] 39)) (zh ((hg.o.alloc _))) (zh ((oa.o.alloc _))) (zh ((ob.o.alloc _))) (zh (ap.o)) (zh (⟨(Bk.new W 39 [.slice (some ⟨rb,0,none⟩) m m]).c0,hg.o.k.size,by rw[zX];exact zo _⟩)) (zh (⟨⟨(yI _ _ _ ab.o.2.2).trans ab.o.1.1,(yI _ _ _ ab.o.2.2).trans ab.o.1.2.1,(yI _ _ _ ab.o.2.2).trans ab.o.1.2.2⟩,ab.o.2.1,by rw[zX];exact xf ab.o.2.2⟩));rw[ad.o]at hl;exact hl
  exact zR
 have Lx12:∀(W:World),Hid (G22 xb gb uv Aa Ab i ca cb x w W)->Hid (W.ownsRow B1 39 1 (Value.slice Aa i ca) i ai)->Hid (W.ownsRow B1 48 3 (Value.slice Ab i cb) i cbs)->Hid (∀b,(Value.slice Aa i ca).ownBlock=some b->(Value.slice Ab i cb).ownBlock≠some b)->F 11 #[true,true,true,true,true,false,true,false,false,true,true,true,true,true,false,false,false,false,false,false,false,false] (fr ax ay am (.slice Ab i cb) al af) W:=by
  intro  W hg oa ob ap;rw[hF.o,ad.o];dsimp only;refine zU (rs:=[5,7,14]) (by kernel_rfl) (by simp) ?_;have x1:=hg.o.y.c1;have x9:=hg.o.y.lt;refine zK (o:=_) rfl (fun K hK=>?_) ?_
  .go_simp;clear x1 x9;refine hK.o _ _ (Ah hg.o.b) (fun _=>?_);clear hK K
   try simp only[zA,zF,zE]
   rw[<-hF.o];have hl:=Lx5x12  W hg oa ob ap;rw[ad.o]at hl;exact hl
  clear x1 x9;refine zK (o:=_) rfl (fun K hK=>?_) ?_
  .go_simp;refine hK.o _ _ (Ah (hg.o.b.alloc _)) (fun _=>?_);clear hK K
   try simp only[zA,zF,zE]
   rw[<-hF.o];have hl:=Lx7x12 W.heap.size (W.alloc (.cells #[.slice (some ⟨rb,0,none⟩) m m] 39)) (zh ((hg.o.alloc _))) (zh ((oa.o.alloc _))) (zh ((ob.o.alloc _))) (zh (ap.o)) (zh (⟨(Bk.new W 39 [.slice (some ⟨rb,0,none⟩) m m]).c0,hg.o.k.size,by rw[zX];exact zo _⟩));rw[ad.o]at hl;exact hl
  refine zK (o:=_) rfl (fun K hK=>?_) ?_
  .go_simp;refine hK.o _ _ (Ah (hg.o.b.alloc _)) (fun _=>?_);clear hK K
   try simp only[zA,zF,zE]
   rw[<-hF.o];have hl:=Lx12x14 W.heap.size (W.alloc (.cells #[.bool x.1,.string x.2.1,.string x.2.2] 48)) (zh ((hg.o.alloc _))) (zh ((oa.o.alloc _))) (zh ((ob.o.alloc _))) (zh (ap.o)) (zh (⟨⟨(Bk.new W 48 [.bool x.1,.string x.2.1,.string x.2.2]).c0,(Bk.new W 48 [.bool x.1,.string x.2.1,.string x.2.2]).c1,(Bk.new W 48 [.bool x.1,.string x.2.1,.string x.2.2]).c2⟩,hg.o.k.size,by rw[zX];exact zo _⟩));rw[ad.o]at hl;exact hl
  exact zR
 have Lx14:∀(aa:Nat)(W:World),Hid (G22 xb gb uv Aa Ab i ca cb x w W)->Hid (W.ownsRow B1 39 1 (Value.slice Aa i ca) i ai)->Hid (W.ownsRow B1 48 3 (Value.slice Ab i cb) i cbs)->Hid (∀b,(Value.slice Aa i ca).ownBlock=some b->(Value.slice Ab i cb).ownBlock≠some b)->Hid ((W.cell? ⟨aa,0,none⟩=some (.bool x.1)/\W.cell? ⟨aa,1,none⟩=some (.string x.2.1)/\W.cell? ⟨aa,2,none⟩=some (.string x.2.2))/\w.heap.size<=aa/\aa<W.heap.size)->F 11 #[true,true,true,true,true,false,true,false,false,true,true,true,false,true,true,false,false,false,false,false,false,false] (fr ax ay am au (.slice (some ⟨aa,0,none⟩) 1 1) af) W:=by
  intro aa W hg oa ob ap ab;rw[hF.o,ad.o];dsimp only;refine zU (rs:=[5,7,12]) (by kernel_rfl) (by simp) ?_;have x1:=hg.o.y.c1;have x9:=hg.o.y.lt;refine zK (o:=_) rfl (fun K hK=>?_) ?_
  .go_simp;clear x1 x9;refine hK.o _ _ (Ah hg.o.b) (fun _=>?_);clear hK K
   try simp only[zA,zF,zE]
   rw[<-hF.o];have hl:=Lx5x14 aa W hg oa ob ap ab;rw[ad.o]at hl;exact hl
  clear x1 x9;refine zK (o:=_) rfl (fun K hK=>?_) ?_
  .go_simp;refine hK.o _ _ (Ah (hg.o.b.alloc _)) (fun _=>?_);clear hK K
   try simp only[zA,zF,zE]
   rw[<-hF.o];have hl:=Lx7x14 W.heap.size aa (W.alloc (.cells #[.slice (some ⟨rb,0,none⟩) m m] 39)) (zh ((hg.o.alloc _))) (zh ((oa.o.alloc _))) (zh ((ob.o.alloc _))) (zh (ap.o)) (zh (⟨(Bk.new W 39 [.slice (some ⟨rb,0,none⟩) m m]).c0,hg.o.k.size,by rw[zX];exact zo _⟩)) (zh (⟨⟨(yI _ _ _ ab.o.2.2).trans ab.o.1.1,(yI _ _ _ ab.o.2.2).trans ab.o.1.2.1,(yI _ _ _ ab.o.2.2).trans ab.o.1.2.2⟩,ab.o.2.1,by rw[zX];exact xf ab.o.2.2⟩));rw[ad.o]at hl;exact hl
  have x1:=hg.o.y.c2;have x9:=hg.o.y.lt;refine zK (o:=_) rfl (fun K hK=>?_) ?_
  .go_simp;clear x1 x9;refine hK.o _ _ (Ah hg.o.b) (fun _=>?_);clear hK K
   try simp only[zA,zF,zE]
   rw[<-hF.o];have hl:=Lx12x14 aa W hg oa ob ap ab;rw[ad.o]at hl;exact hl
  clear x1 x9;exact zR
 have L:∀(W:World),Hid (G22 xb gb uv Aa Ab i ca cb x w W)->Hid (W.ownsRow B1 39 1 (Value.slice Aa i ca) i ai)->Hid (W.ownsRow B1 48 3 (Value.slice Ab i cb) i cbs)->Hid (∀b,(Value.slice Aa i ca).ownBlock=some b->(Value.slice Ab i cb).ownBlock≠some b)->F 12 #[true,true,true,true,true,false,true,false,false,true,true,true,false,true,false,false,false,false,false,false,false,false] (fr ax ay am au al af) W:=by
  intro  W hg oa ob ap;rw[hF.o,ad.o];dsimp only;refine zU (rs:=[5,7,12,14]) (by kernel_rfl) (by simp) ?_;have x1:=hg.o.y.c1;have x9:=hg.o.y.lt;refine zK (o:=_) rfl (fun K hK=>?_) ?_
  .go_simp;clear x1 x9;refine hK.o _ _ (Ah hg.o.b) (fun _=>?_);clear hK K
   try simp only[zA,zF,zE]
   rw[<-hF.o];have hl:=Lx5  W hg oa ob ap;rw[ad.o]at hl;exact hl
  clear x1 x9;refine zK (o:=_) rfl (fun K hK=>?_) ?_
  .go_simp;refine hK.o _ _ (Ah (hg.o.b.alloc _)) (fun _=>?_);clear hK K
   try simp only[zA,zF,zE]
   rw[<-hF.o];have hl:=Lx7 W.heap.size (W.alloc (.cells #[.slice (some ⟨rb,0,none⟩) m m] 39)) (zh ((hg.o.alloc _))) (zh ((oa.o.alloc _))) (zh ((ob.o.alloc _))) (zh (ap.o)) (zh (⟨(Bk.new W 39 [.slice (some ⟨rb,0,none⟩) m m]).c0,hg.o.k.size,by rw[zX];exact zo _⟩));rw[ad.o]at hl;exact hl
  have x1:=hg.o.y.c2;have x9:=hg.o.y.lt;refine zK (o:=_) rfl (fun K hK=>?_) ?_
  .go_simp;clear x1 x9;refine hK.o _ _ (Ah hg.o.b) (fun _=>?_);clear hK K
   try simp only[zA,zF,zE]
   rw[<-hF.o];have hl:=Lx12  W hg oa ob ap;rw[ad.o]at hl;exact hl
  clear x1 x9;refine zK (o:=_) rfl (fun K hK=>?_) ?_
  .go_simp;refine hK.o _ _ (Ah (hg.o.b.alloc _)) (fun _=>?_);clear hK K
   try simp only[zA,zF,zE]
   rw[<-hF.o];have hl:=Lx14 W.heap.size (W.alloc (.cells #[.bool x.1,.string x.2.1,.string x.2.2] 48)) (zh ((hg.o.alloc _))) (zh ((oa.o.alloc _))) (zh ((ob.o.alloc _))) (zh (ap.o)) (zh (⟨⟨(Bk.new W 48 [.bool x.1,.string x.2.1,.string x.2.2]).c0,(Bk.new W 48 [.bool x.1,.string x.2.1,.string x.2.2]).c1,(Bk.new W 48 [.bool x.1,.string x.2.1,.string x.2.2]).c2⟩,hg.o.k.size,by rw[zX];exact zo _⟩));rw[ad.o]at hl;exact hl
  exact zR
 have hl:=L w.drew cq cA cC ap;rw[ad.o]at hl;exact VX (by kernel_rfl) (by kernel_rfl) (by kernel_rfl) hl
end Sh
end
section
namespace Sh
open Nt Ci
theorem Ha(p:Nat)(f:Nat->Rat)(l m:List Lp):AB p f (l++m)=AB p f l+AB p f m:=by
 induction l with
 |nil=>show AB p f m=0+AB p f m;grind
 |cons x l ih=>
  rw[yi]
  show (if x.1=p then x.2.2*f x.2.1 else 0)+AB p f (l++m)=(if x.1=p then x.2.2*f x.2.1 else 0)+AB p f l+AB p f m
  rw[ih,Rat.add_assoc]
theorem De{p:Nat}{f:Nat->Rat}{l:List Lp}{k:Nat}(h:k<l.length):AB p f (l.take (k+1))=AB p f (l.take k)+if l[k].1=p then l[k].2.2*f l[k].2.1 else 0:=by
 rw[zO h,Ha]
 congr 1
 show (if l[k].1=p then l[k].2.2*f l[k].2.1 else 0)+0=_
 exact ws _
theorem Kx{p:Nat}{f:Nat->Rat}{l:List Lp}(hp:∀x,x∈l->0<x.2.2)(hf:∀x,x∈l->0<=f x.2.1)(k:Nat):AB p f (l.take k)<=AB p f l:=by
 have h:=Ha p f (l.take k) (l.drop k);rw[yo]at h;have h2:=Cf (p:=p) (f:=f) (L:=l.drop k) (fun x hx=>hp x (wI hx)) fun x hx _=>hf x (wI hx);grind
theorem Caps.take{n:Nat}{L:List Lp}(h:Caps n L)(k:Nat):Caps n (L.take k):=by
 refine⟨fun x hx=>h.lt x (yC hx),fun x hx=>h.whole x (yC hx),fun x hx=>h.pos x (yC hx),fun p=>?_⟩;have h1:=Kx (p:=p) (f:=fun _=>1) h.pos (fun _ _=>by decide) k;have h2:=h.le1 p;grind
theorem U1{n:Nat}{L:List Lp}(h:Caps n L)(p q:Nat)(b:Bool):Fit 6000 ((if b=true then 1 else 0)-AB p (fun h=>if h=q then 1 else 0) L):=by
 have h0:=Cf (p:=p) (f:=fun h=>if h=q then 1 else 0) h.pos fun x _ _=>by split<;>decide
 have h1:AB p (fun h=>if h=q then 1 else 0) L<=1:=h.le_of (by decide) fun x _ _=>by split<;>decide
 have h2:=h.int_sum (p:=p) (f:=fun h=>if h=q then 1 else 0) (D:=1) fun x _ _=>by
  split
  .exact IsI.one.mul IsI.one
  exact IsI.one.mul IsI.zero
 refine⟨?_,?_,6000,by omega,zB _,?_⟩
 .split<;>grind
 .split<;>grind
 have e:((6000:Nat):Rat)*((if b=true then 1 else 0)-AB p (fun h=>if h=q then 1 else 0) L)=(if b=true then 1 else 0)*6000+-(6000*1*AB p (fun h=>if h=q then 1 else 0) L):=by
  rw[show ((6000:Nat):Rat)=6000 from rfl];grind
 rw[e];refine IsI.add ?_ h2.neg
 split
 .exact IsI.one.mul (IsI.nat 6000)
 exact IsI.zero.mul (IsI.nat 6000)
theorem PF{n D:Nat}{L:List Lp}(h:Caps n L)(p:Nat){f:Nat->Rat}(hD:0<D)(hf:∀q,0<=f q/\f q<=1)(hi:∀q,IsI ((D:Rat)*f q)):Fit (6000*D) (AB p f L):=by
 have h0:=Cf (p:=p) (f:=f) h.pos fun x _ _=>(hf x.2.1).1;have h1:AB p f L<=1:=h.le_of (by decide) fun x _ _=>(hf x.2.1).2;have h2:=h.int_sum (p:=p) (f:=f) (D:=(D:Rat)) fun x _ _=>hi x.2.1;refine⟨by grind,h1,6000*D,vH (by omega) hD,zB _,?_⟩;rw[xr];exact h2
theorem Sys.congr{n c D:Nat}{A B:Mx}{v:Nat->Rat}(h:Sys n c D A v)(e:∀i j,i<n->j<=n->B i j=A i j):Sys n c D B v:=by
 obtain⟨⟨a1,a2,a3,a4,a5,a6⟩,h2,h3,h4,h5⟩:=h;refine⟨⟨fun i hi=>?_,fun i j hi hj hn=>?_,fun i hi=>?_,fun i hi=>?_,fun i hi=>?_,a6⟩,h2,h3,fun i j hi hj=>?_,fun i hi=>?_⟩
 .rw[e i i hi (by omega)];exact a1 i hi
 .rw[e i j hi (by omega)];exact a2 i j hi hj hn
 .rw[e i n hi (zB _)];exact a3 i hi
 .rw[e i n hi (zB _),As (f:=B i) (g:=A i) fun j hj=>e i j hi (by omega)];exact a4 i hi
 .rw[As (g:=fun j=>A i j*v j) fun j hj=>by rw[e i j hi (by omega)]];exact a5 i hi
 .rw[e i j hi (by omega)];exact h4 i j hi hj
 rw[e i n hi (zB _)];exact h5 i hi
def CR(L:List Lp)(u:List Nat)(val:Nat->Rat):List (List Raw):=(List.range u.length).map fun i=>BP u.length (Bi L u val i)
def Fm(L:List Lp)(u:List Nat)(val:Nat->Rat):List Raw:=BP u.length fun i=>Bi L u val i u.length
theorem J5{n:Nat}{f:Nat->Rat}{i:Nat}(h:i<n)(d:Raw):(BP n f).getD i d=rq (f i):=by
 rw[El (by rw[AG];exact h),EG]
theorem No{L:List Lp}{u:List Nat}{val:Nat->Rat}{i:Nat}(h:i<u.length):(CR L u val).getD i []=BP u.length (Bi L u val i):=by
 unfold CR;rw[El (by simpa using h)];simp
theorem VY{x:Rat}{B:Nat}(h:Fit B x)(hB:B<L1):OkQ x:=(Ch h hB).ok
theorem Vr:6000^17<L1:=yA (zi (by omega) (by omega)) L5
theorem LB{n D:Nat}{L:List Lp}{F done u:List Nat}{val:Nat->Rat}(hL:Caps n L)(hi:Inv L F done val D)(hx:Nxt L F done u)(ae:done.length+u.length<=16)(h8:u.length<=8):
 DD (CR L u val) (Fm L u val)=.ok (BP u.length fun i=>Cu SQ L u val (u.getD i 0)):=by
 have hs:=hx.sys hL hi
 have ab:∀i j,i<u.length->j<=u.length->OkQ (Bi L u val i j):=fun i j h1 h2=>by
  have:=hs.fit (Mad.start u.length _) hs.shs (zQ _) h1 h2;refine VY (this.mono ?_) Vr
  calc 6000^(u.length+1)*D<=6000^(u.length+1)*6000^done.length:=xP _ hi.dle
   _=6000^(u.length+1+done.length):=(wF _ _ _).symm
   _<=6000^17:=zi (by omega) (by omega)
 have aa:(Fm L u val).length=u.length:=AG _ _;have ad:(CR L u val).length=u.length:=by unfold CR;simp
 have hb:allV (Fm L u val)=true:=EF.2 fun i h=>by
  have e:(Fm L u val)[i]=rq (Bi L u val i u.length):=EG u.length (fun i=>Bi L u val i u.length) i h;rw[e];exact Of (ab i _ (by rwa [aa]at h) (zB _))
 have ha:Pz (Fm L u val).length (CR L u val)=true:=Lu.2 fun i h=>by
  rw[ad]at h;have e:(CR L u val)[i]'(by rw[ad];exact h)=BP u.length (Bi L u val i):=by unfold CR;simp
  rw[e,aa];refine⟨AG _ _,EF.2 fun j hj=>?_⟩;rw[EG];rw[AG]at hj;exact Of (ab i j h (xW hj))
 have hM:∀i j,i<u.length->j<=u.length->Hg (CR L u val) (Fm L u val) i j=Bi L u val i j:=fun i j h1 h2=>by
  unfold Hg;rw[aa]
  by_cases e:j=u.length
  .rw[zD e,e];unfold Fm;rw[J5 h1,RV]
  rw[zC e,No h1,J5 (by omega),RV]
 have hS:∀x,Fit ((6000^(u.length+1)*D)*(6000^(u.length+1)*D)) x->SQ x=true:=fun x h=>Kv x (h.mono (J0 hi.dle ae));obtain⟨M,m1,m2,_⟩:=(hs.congr hM).result (S:=SQ) hS;obtain⟨N,n1,n2,_⟩:=hs.result (S:=SQ) hS;have hv:Cu SQ L u val=fun p=>if p∈u then N (u.idxOf p) u.length else val p:=by unfold Cu;rw[n1]
 have af:∀i,i<u.length->M i u.length=N i u.length:=by
  have h1:Sol u.length (Hg (CR L u val) (Fm L u val)) (fun i=>N i u.length) (fun i=>Hg (CR L u val) (Fm L u val) i u.length):=fun i d=>by
   have h2:(Aq u.length fun j=>Bi L u val i j*N j u.length)=Bi L u val i u.length:=(n2 (fun i=>N i u.length)).2 (fun _ _=>rfl) i d
   show (Aq u.length fun j=>Hg (CR L u val) (Fm L u val) i j*N j u.length)=Hg (CR L u val) (Fm L u val) i u.length
   rw[hM i _ d (zB _),<-h2];exact As fun j hj=>by rw[hM i j d (xW hj)]
  exact fun i d=>((m2 _).1 h1 i d).symm
 unfold DD;rw[zD ⟨ad.trans aa.symm,hb,ha⟩,zD (by rw[aa];exact h8),aa,m1]
 show Except.ok (BP u.length fun i=>M i u.length)=_
 congr 1
 apply Nd;intro i d;rw[af i d,hv];dsimp only;rw[zD (EI d),Gc hx.nodup d]
theorem Ready.nodup{L:List Lp}{F:List Nat}:∀{us:List (List Nat)} {done:List Nat},Ready L F done us->done.Nodup->(done++us.flatten).Nodup:=by
 intro us
 induction us with
 |nil=>intro done _ h;simpa using h
 |cons u us ih=>
  intro done h hd;rw[wH,<-xT];refine ih h.2 (List.nodup_append.2 ⟨hd,h.1.nodup,fun a ha b hb e=>?_⟩);subst e;exact h.1.new a hb ha
theorem Ready.lt{n:Nat}{F:List Nat}{E:List (Nat×Nat)}:∀p,p∈(BQ n E F).flatten->p<n:=by
 intro p hp;obtain⟨u,hu,hp⟩:=List.mem_flatten.1 hp;unfold BQ at hu;obtain⟨c,hc,rfl⟩:=List.mem_map.1 hu;have h1:=(Eo.1 hp).1;unfold Ar at hc;obtain⟨q,_,rfl⟩:=List.mem_map.1 hc;exact(CF.1 h1).1
theorem Is{n:Nat}{L:List Lp}{F:List Nat}(hL:Caps n L):(BQ n (Ai L) F).flatten.length<=n:=by
 have h:=(G8 (F:=F) hL.inN).nodup vP;rw[yT]at h;exact Cv n _ h Ready.lt
noncomputable def AX(n:Nat)(E:List (Nat×Nat))(F:List Nat):Bool:=(BQ n E F).any (fun u=>decide (8<u.length))||decide (16<(BQ n E F).flatten.length)
theorem St{n:Nat}{L:List Lp}{F:List Nat}(hL:Caps n L)(hn:n<=8):AX n (Ai L) F=false:=by
 have h:=Is (F:=F) hL;unfold AX;rw[Bool.or_eq_false_iff,List.any_eq_false];refine⟨fun u hu=>?_,zH (by omega)⟩;have:u.length<=(BQ n (Ai L) F).flatten.length:=(List.sublist_flatten_of_mem hu).length_le;simp only[yG];omega
theorem It{n:Nat}{E:List (Nat×Nat)}{F:List Nat}(h:AX n E F=false):(∀u,u∈BQ n E F->u.length<=8)/\(BQ n E F).flatten.length<=16:=by
 unfold AX at h;rw[Bool.or_eq_false_iff,List.any_eq_false]at h;refine⟨fun u hu=>?_,by have:=zu h.2;omega⟩;have:=h.1 u hu;simp only[yG]at this;omega
section
variable {n:Nat} {L:List Lp} {u:List Nat} {val:Nat->Rat} {i k j:Nat}
def BW(L:List Lp)(u:List Nat)(i k j:Nat):Rat:=(if i=j then 1 else 0)-AB (u.getD i 0) (fun h=>if h=u.getD j 0 then 1 else 0) (L.take k)
def BB(L:List Lp)(u:List Nat)(val:Nat->Rat)(i k:Nat):Rat:=AB (u.getD i 0) (fun h=>if h∈u then 0 else val h) (L.take k)
theorem PG:BW L u i 0 j=if i=j then 1 else 0:=by
 unfold BW
 show _-(0:Rat)=_
 grind
theorem PH:BB L u val i 0=0:=rfl
theorem LC(hj:j<u.length):BW L u i L.length j=Bi L u val i j:=by
 unfold BW Bi;dsimp only;rw[zn];have e:¬j=u.length:=by omega
 rw[zC e]
theorem LD:BB L u val i L.length=Bi L u val i u.length:=by
 unfold BB Bi;dsimp only;rw[zn,zD rfl]
theorem Su(hk:k<L.length)(h:L[k].1≠u.getD i 0):(∀j,BW L u i (k+1) j=BW L u i k j)/\BB L u val i (k+1)=BB L u val i k:=by
 refine⟨fun j=>?_,?_⟩
 .unfold BW;rw[De hk,zC h,ws]
 unfold BB;rw[De hk,zC h,ws]
theorem VZ(hu:u.Nodup)(hk:k<L.length)(h:L[k].1=u.getD i 0){c:Nat}(hc:c<u.length)(hh:L[k].2.1=u.getD c 0):
 (∀j,j<u.length->BW L u i (k+1) j=if j=c then BW L u i k c+-1*L[k].2.2 else BW L u i k j)/\BB L u val i (k+1)=BB L u val i k:=by
 refine⟨fun j hj=>?_,?_⟩
 .unfold BW;rw[De hk,zD h,hh]
  by_cases e:j=c
  .subst e;have e1:(if u.getD j 0=u.getD j 0 then (1:Rat) else 0)=1:=zD rfl;rw[e1,zD (rfl:j=j)];grind
  have e1:(if u.getD c 0=u.getD j 0 then (1:Rat) else 0)=0:=zC fun e2=>by
   have:=Gc hu hj;rw[<-e2,Gc hu hc]at this;exact e this.symm
  rw[e1,zC e];grind
 unfold BB;rw[De hk,zD h,zD (by rw[hh];exact EI hc)];grind
theorem U2(hk:k<L.length)(h:L[k].1=u.getD i 0)(hh:L[k].2.1∉u):
 (∀j,j<u.length->BW L u i (k+1) j=BW L u i k j)/\BB L u val i (k+1)=BB L u val i k+L[k].2.2*val L[k].2.1:=by
 refine⟨fun j hj=>?_,?_⟩
 .unfold BW;have e1:(if L[k].2.1=u.getD j 0 then (1:Rat) else 0)=0:=zC fun e=>hh (by rw[e];exact EI hj);rw[De hk,zD h,e1];grind
 unfold BB;rw[De hk,zD h,zC hh]
theorem Iu(hL:Caps n L):ShortQ (BW L u i k j):=by
 have:=U1 (hL.take k) (u.getD i 0) (u.getD j 0) (decide (i=j));unfold BW;simp only[yG]at this;exact Ch this (yA (by have:6000^1<=6000^34:=zi (by omega) (by omega);omega) L5)
theorem Sv{D:Nat}(h:D<=6000^16):6000*D<L1:=by
 refine yA ?_ Vr
 calc 6000*D<=6000*6000^16:=xP _ h
  _=6000^17:=by rw[yY 6000 16,yN]
structure Vals(val:Nat->Rat)(D:Nat):Prop where
 rng:∀p,0<=val p/\val p<=1
 dp:0<D
 dle:D<=6000^16
 whole:∀p,IsI ((D:Rat)*val p)
theorem Vals.fit{D:Nat}(h:Vals val D)(p:Nat):Fit D (val p):=⟨by have:=(h.rng p).1;grind,(h.rng p).2,D,h.dp,zB _,h.whole p⟩
theorem Vals.short{D:Nat}(h:Vals val D)(p:Nat):ShortQ (val p):=Ch (h.fit p) (yA h.dle (yA (zi (by omega) (by omega)) L5))
theorem Iv{D:Nat}(hL:Caps n L)(h:Vals val D):ShortQ (BB L u val i k):=by
 have:=PF (hL.take k) (u.getD i 0) (f:=fun q=>if q∈u then 0 else val q) h.dp (fun q=>by
  split
  .constructor<;>decide
  .exact h.rng q) fun q=>by
  split
  .rw[Rat.mul_zero];exact IsI.zero
  exact h.whole q
 exact Ch this (Sv h.dle)
theorem Iw(hL:Caps n L)(hk:k<L.length):Fit 6000 L[k].2.2:=by
 have h1:=hL.pos _ (zN hk);have h2:=hL.whole _ (zN hk);have h3:=hL.le1 L[k].1;have h4:=Gb (p:=L[k].1) (f:=fun _=>0) (g:=fun _=>1) hL.pos (fun _ _ _=>by decide) (zN hk) rfl;rw[DO fun _ _ _=>rfl]at h4;exact⟨by grind,by grind,6000,by omega,zB _,h2⟩
theorem Xg:6000<L1:=yA (by have:6000^1<=6000^34:=zi (by omega) (by omega);omega) L5
theorem Np(hL:Caps n L)(hk:k<L.length):ShortQ L[k].2.2:=Ch (Iw hL hk) Xg
theorem Sw(hL:Caps n L)(hk:k<L.length):ShortQ (-1*L[k].2.2):=by
 obtain⟨a,b,d,d1,d2,d3⟩:=Iw hL hk
 have:Fit 6000 (-1*L[k].2.2):=⟨by grind,by grind,d,d1,d2,by
  have e:(d:Rat)*(-1*L[k].2.2)=-((d:Rat)*L[k].2.2):=by grind
  rw[e];exact d3.neg⟩
 exact Ch this Xg
theorem Sx{D:Nat}(hL:Caps n L)(h:Vals val D)(hk:k<L.length)(q:Nat):ShortQ (L[k].2.2*val q):=by
 have h1:=Iw hL hk;have h0:=hL.pos _ (zN hk);have h2:=h.rng q;have h3:=(hL.whole _ (zN hk)).mul (h.whole q)
 have e:6000*L[k].2.2*((D:Rat)*val q)=((6000*D:Nat):Rat)*(L[k].2.2*val q):=by
  rw[xr,show ((6000:Nat):Rat)=6000 from rfl];grind
 rw[e]at h3;have h4:=xe (xD h0) h2.1;have h5:=yJ h2.2 (xD h0);have h6:=h1.2.1;have:Fit (6000*D) (L[k].2.2*val q):=⟨by grind,by grind,6000*D,vH (by omega) h.dp,zB _,h3⟩;exact Ch this (Sv h.dle)
theorem Xh(hu:u.Nodup){h c:Nat}(hc:c<u.length)(e:h=u.getD c 0):GA (u.map fun(q:Nat)=>(q:Int)) (h:Int)=(c:Int):=by
 have d:c<(u.map fun(q:Nat)=>(q:Int)).length:=by simpa using hc
 refine Vp d (fun j hj aa=>?_) ?_
 .rw[zz];intro e2;have e3:u[j]'(by simpa using hj)=h:=by omega
  rw[e,Dt hc]at e3;have hp:=List.pairwise_iff_getElem.1 hu j c (by simpa using hj) hc aa;exact hp e3
 rw[zz,e,Dt hc]
theorem Wa{h:Nat}(e:h∉u):GA (u.map fun(q:Nat)=>(q:Int)) (h:Int)=-1:=by
 refine Vq fun j hj=>?_;rw[zz];intro e2
 exact e (by have e3:u[j]'(by simpa using hj)=h:=by omega
             rw[<-e3];exact zN _)
end
theorem kp_trans{xs ys:List Nat}{w w' w'':World}(h:Kp xs w w')(h2:Kp ys w' w'')(hy:∀y,y∈ys->y∈xs\/w.heap.size<=y):Kp xs w w'' :=
 ⟨h2.os.trans h.os,h2.tape.trans h.tape,h2.output.trans h.output,zS h.size h2.size,fun k hk hx=>(h2.block k (zJ hk h.size) (fun hm=>(hy k hm).elim hx (fun c=>by omega))).trans (h.block k hk hx)⟩
theorem On{xs:List Nat}{base size m:Nat}{e:TypeId}{u:Value}{l:List Value}{w w':World}(h:w.ownsRow base e size u m l)(hk:Kp xs w w')(hb:∀b,u.ownBlock=some b->b∉xs):w'.ownsRow base e size u m l:=by
 obtain⟨h1,h2⟩:=h;refine⟨h1,?_⟩
 rcases h2 with h2|⟨g,cap,cur,hv,hg,hh,rest⟩
 .exact .inl h2
 exact .inr ⟨g,cap,cur,hv,hg,(hk.block g (Array.getElem?_eq_some_iff.1 hh).1 (hb g (by rw[hv];rfl))).trans hh,rest⟩
theorem Ky{xs:List Nat}{w w':World}{b m:Nat}{r:Nat->Raw}(h:RowB w b m r)(hk:Kp xs w w')(hb:b∉xs):RowB w' b m r:=(hk.block b h.lt hb).trans h
end Sh
end
section
open Go.RowKit Go.Shelf
namespace Sh
open Nt Ci
def BdI(w W:World)(xb m i:Nat)(uv:Value)(M:Mx):Prop :=
 ∃(Aa Ab:Option Addr)(ca cb:Nat)(bl:Nat->Nat),Kp [xb] w W/\Bk W xb 84 [uv,.slice Aa i ca,.slice Ab i cb] /\
  W.ownsRow w.heap.size 39 1 (.slice Aa i ca) i ((List.range i).map fun k=>.slice (some ⟨bl k,0,none⟩) m m) /\
  W.ownsRow w.heap.size 48 3 (.slice Ab i cb) i (AN i fun k=>rq (M k m)) /\
  (∀b,(Value.slice Aa i ca).ownBlock=some b->(Value.slice Ab i cb).ownBlock≠some b) /\
  ∀k,k<i->RowB W (bl k) m (fun j=>rq (M k j))/\(Value.slice Aa i ca).ownBlock≠some (bl k)/\(Value.slice Ab i cb).ownBlock≠some (bl k)/\bl k≠xb
theorem BdI.start{w:World}{xb m:Nat}{uv:Value}{M:Mx}(h:Bk w xb 84 [uv,.slice none 0 0,.slice none 0 0]):BdI w w xb m 0 uv M :=
 ⟨none,none,0,0,fun _=>0,Kp.refl _ _,h,yO _ _ _ _,yO _ _ _ _,(fun b e=>by cases e),fun k h=>absurd h (yB _)⟩
theorem BdI.step{w wy wz W:World}{xb m i rb:Nat}{uv:Value}{M:Mx}{Aa Ab Aa2 Ab2:Option Addr}{ca cb h aa:Nat}{bl:Nat->Nat}
 (hK:Kp [xb] w wy)(ag:wy.ownsRow w.heap.size 39 1 (.slice Aa i ca) i ((List.range i).map fun k=>.slice (some ⟨bl k,0,none⟩) m m))
 (ah:wy.ownsRow w.heap.size 48 3 (.slice Ab i cb) i (AN i fun k=>rq (M k m)))
 (ad:∀k,k<i->RowB wy (bl k) m (fun j=>rq (M k j))/\(Value.slice Aa i ca).ownBlock≠some (bl k)/\(Value.slice Ab i cb).ownBlock≠some (bl k)/\bl k≠xb)
 (hB:Below wy.heap.size wy wz)(ai:rb=wy.heap.size)(ak:xb<wy.heap.size)(ab:RowB wz rb m fun j=>rq (M i j))
 (k1:Kp (xb::((Value.slice Aa i ca).ownBlock.toList++(Value.slice Ab i cb).ownBlock.toList)) wz W)
 (k2:Bk W xb 84 [uv,.slice Aa2 (i+1) h,.slice Ab2 (i+1) aa])
 (k3:W.ownsRow w.heap.size 39 1 (.slice Aa2 (i+1) h) (i+1) (((List.range i).map fun k=>.slice (some ⟨bl k,0,none⟩) m m)++[.slice (some ⟨rb,0,none⟩) m m]))
 (k4:W.ownsRow w.heap.size 48 3 (.slice Ab2 (i+1) aa) (i+1) ((AN i fun k=>rq (M k m))++[.bool (rq (M i m)).1,.string (rq (M i m)).2.1,.string (rq (M i m)).2.2]))
 (k5:∀b,(Value.slice Aa2 (i+1) h).ownBlock=some b->(Value.slice Ab2 (i+1) aa).ownBlock≠some b)
 (k6:(Value.slice Aa2 (i+1) h).ownBlock=(Value.slice Aa i ca).ownBlock\/∃b,(Value.slice Aa2 (i+1) h).ownBlock=some b/\wz.heap.size<=b)
 (k7:(Value.slice Ab2 (i+1) aa).ownBlock=(Value.slice Ab i cb).ownBlock\/∃b,(Value.slice Ab2 (i+1) aa).ownBlock=some b/\wz.heap.size<=b):BdI w W xb m (i+1) uv M:=by
 have al:=hB.size;have aj:=ab.lt;have la:∀b,(Value.slice Aa i ca).ownBlock=some b->w.heap.size<=b/\b<wy.heap.size:=fun b e=>ag.lt b e;have lb:∀b,(Value.slice Ab i cb).ownBlock=some b->w.heap.size<=b/\b<wy.heap.size:=fun b e=>ah.lt b e
 have ae:∀{b:Nat},b≠xb->(Value.slice Aa i ca).ownBlock≠some b->(Value.slice Ab i cb).ownBlock≠some b->b∉(xb::((Value.slice Aa i ca).ownBlock.toList++(Value.slice Ab i cb).ownBlock.toList)):=fun {b} h1 h2 h3 hm=>by
  rcases List.mem_cons.1 hm with c|c
  .exact h1 c
  rcases List.mem_append.1 c with c|c
  .exact h2 (by simpa using c)
  exact h3 (by simpa using c)
 refine⟨Aa2,Ab2,h,aa,fun k=>if k=i then rb else bl k,?_,k2,?_,?_,k5,?_⟩
 .refine kp_trans (hK.below hB) k1 fun y hy=>?_
  rcases List.mem_cons.1 hy with c|c
  .exact .inl (by simp[c])
  rcases List.mem_append.1 c with c|c
  .exact .inr (la y (by simpa using c)).1
  exact .inr (lb y (by simpa using c)).1
 .have e:(List.range (i+1)).map (fun k=>Value.slice (some ⟨if k=i then rb else bl k,0,none⟩) m m)=((List.range i).map fun k=>.slice (some ⟨bl k,0,none⟩) m m)++[.slice (some ⟨rb,0,none⟩) m m]:=by
   rw[xi,zw,List.map_singleton,zD rfl]
   congr 1
   refine xh fun k hk=>?_;rw[zC (by have:=List.mem_range.1 hk;omega)]
  rw[e];exact k3
 .rw[BU];exact k4
 intro k hk;dsimp only
 by_cases e:k=i
 .subst e;rw[zD rfl];have n1:(Value.slice Aa k ca).ownBlock≠some rb:=fun e=>by have:=(la _ e).2;omega
  have n2:(Value.slice Ab k cb).ownBlock≠some rb:=fun e=>by have:=(lb _ e).2;omega
  refine⟨Ky ab k1 (ae (by omega) n1 n2),fun e=>?_,fun e=>?_,by omega⟩
  .rcases k6 with c|⟨b,c,d⟩
   .exact n1 (c▸e)
   rw[c]at e;cases e;omega
  rcases k7 with c|⟨b,c,d⟩
  .exact n2 (c▸e)
  rw[c]at e;cases e;omega
 rw[zC e];obtain⟨r1,r2,r3,r4⟩:=ad k (by omega);have af:=r1.lt;refine⟨Ky (r1.below hB af) k1 (ae r4 r2 r3),fun e=>?_,fun e=>?_,r4⟩
 .rcases k6 with c|⟨b,c,d⟩
  .exact r2 (c▸e)
  rw[c]at e;cases e;omega
 rcases k7 with c|⟨b,c,d⟩
 .exact r3 (c▸e)
 rw[c]at e;cases e;omega
theorem J6{s:SR}(h:Ao s=true):s.ps.length<=60:=by
 unfold Ao at h;simp only[zq,yG]at h;exact h.2.1
theorem Gf(k:Int)(q:Rat)(hq:(k:Rat)=q)(hk:-10<=k/\k<=10)(w:World)(hE:Env w):
 Calls prog 36 #[.int .i64 k] w fun e w'=>e=.returned (.agg #[.bool (rq (q)).1,.string (rq (q)).2.1,.string (rq (q)).2.2])/\Below w.heap.size w w':=by
 rw[<-hq];exact Js k hk w hE
theorem PI{s:SR}(d:Ao s=true){k:Nat}(hk:k<s.cap.length):∃(co ho:Nat)(part:Rat),s.cap[k]=((co:Int),(ho:Int),rq part)/\(A4 s.cap)[k]'(by unfold A4;simpa using hk)=(co,ho,part)/\co<s.ps.length/\ho<s.ps.length:=by
 obtain⟨⟨h1,h2⟩,⟨h3,h4⟩,h5⟩:=Fe d (zN hk);have hv:=(GY h5).1;have hr:=(Ig (x:=lkP s.cap[k]) hv).1;refine⟨s.cap[k].1.toNat,s.cap[k].2.1.toNat,vq (lkP s.cap[k]),?_,by unfold A4;rw[zz],by omega,by omega⟩;rw[hr];have e1:((s.cap[k].1.toNat:Nat):Int)=s.cap[k].1:=by omega
 have e2:((s.cap[k].2.1.toNat:Nat):Int)=s.cap[k].2.1:=by omega
 rw[e1,e2];rfl
theorem PJ{D:Nat}(s:SR)(Ap Ac Av U:Option Addr)(cp cc cv cu:Nat)(u:List Nat)(val:Nat->Rat)(xb vb mb:Nat)(w:World)
 (aT:Ao s=true)(cd:s.cap.length<=300)(hm:u.length<=8)(hu:u.Nodup)(bQ:∀p,p∈u->p<s.ps.length)(hv:Vals val D)
 (hx:Bk w xb 84 [.slice U u.length cu,.slice none 0 0,.slice none 0 0])
 (al:∀W,Kp [xb] w W->Env W)(bm:∀W,Kp [xb] w W->InLk W Ac s.cap)(a4:∀W,Kp [xb] w W->InInt W U (u.map fun(q:Nat)=>(q:Int)))(bh:∀W,Kp [xb] w W->VM W vb mb s.ps.length val):
 Calls prog 38 #[.pointer (some ⟨xb,0,none⟩),.agg #[.slice Ap s.ps.length cp,.slice Ac s.cap.length cc,.slice Av s.vot.length cv],.func (.func 37) #[] #[.pointer (some ⟨vb,0,none⟩)]] w fun e w'=>e=.returned (.tuple #[])/\∃w3,Kp [xb] w w3/\BdI w3 w' xb u.length u.length (.slice U u.length cu) (Bi (A4 s.cap) u val):=by
 have b6:=J6 aT;have hL:=CW aT;have ch:=hx.lt;have bg:Hid (Kp [xb] w (w.alloc (.cells #[.slice Ap s.ps.length cp,.slice Ac s.cap.length cc,.slice Av s.vot.length cv] 32))):=(Kp.refl [xb] w).alloc _;have bM:Hid (Bk (w.alloc (.cells #[.slice Ap s.ps.length cp,.slice Ac s.cap.length cc,.slice Av s.vot.length cv] 32)) w.heap.size 32 (SC s Ap Ac Av cp cc cv)):=Bk.new w _ _;have aW:Hid (Bk (w.alloc (.cells #[.slice Ap s.ps.length cp,.slice Ac s.cap.length cc,.slice Av s.vot.length cv] 32)) xb 84 [.slice U u.length cu,.slice none 0 0,.slice none 0 0]):=hx.alloc _;have bT:=zh (fun W hW=>Gf (-1) (-1) (by decide +kernel) (by omega) W hW);have bo:=zh (fun W hW=>Gf 0 0 (by decide +kernel) (by omega) W hW);have bU:=zh (fun W hW=>Gf 1 1 (by decide +kernel) (by omega) W hW);have kix:Hid (∀W x,Kp [xb] w W->Calls prog 75 #[.slice U u.length cu,.int .i64 x] W fun e w'=>e=.returned (.int .i64 (GA (u.map fun(q:Nat)=>(q:Int)) x))/\w'=W):=fun W x h=>by have:=J3 U cu _ x W (a4 W h) (by rw[zW];omega);rwa [zW]at this
 have kva:Hid (∀W (p:Nat),p<s.ps.length->Kp [xb] w W->Calls prog 37 #[.int .i64 (p:Int),.pointer (some ⟨vb,0,none⟩)] W fun e w'=>e=.returned (.agg #[.bool (rq (val p)).1,.string (rq (val p)).2.1,.string (rq (val p)).2.2])/\Below W.heap.size W w'):=fun W p hp h=>J2 s.ps.length val vb mb p hp (by omega) W (al W h) (bh W h);have bG:=zh (fun k h=>PI aT (k:=k) h);have aM:(A4 s.cap).length=s.cap.length:=by unfold A4;rw[zW]
 have b5:Hid (∀i (h:i<u.length),u[i]<s.ps.length/\u.getD i 0=u[i]):=fun i h=>⟨bQ _ (zN h),Dt h⟩;have a8:(u.map fun(q:Nat)=>(q:Int)).length=u.length:=zW ..;replace al:=zh al;replace bm:=zh bm;replace a4:=zh a4;replace bh:=zh bh;replace hL:=zh hL;replace hv:=zh hv;replace hu:=zh hu;replace aT:=zh aT;replace hx:=zh hx;replace aM:=zh aM;replace a8:=zh a8;clear bQ;obtain⟨m,ao⟩:∃m,m=u.length:=⟨_,rfl⟩;have k1:=zh (bT.o (w.alloc (.cells #[.slice Ap s.ps.length cp,.slice Ac s.cap.length cc,.slice Av s.vot.length cv] 32)) (al.o _ bg.o));rw[<-ao]at hx aW hm kix ⊢;replace ao:=zh ao;have x0:=aW.o.c0;have x9:=aW.o.lt;go_enter func38,ntmps38
 go_wp2_with fail
 refine k1.o.q fun w2 hb=>?_;have bu:=zh (bg.o.below hb);have bj:=zh (bM.o.below hb);have ba:=zh (aW.o.below hb);clear hb k1 bT x0 x9 bg bM aW;obtain⟨w3,ap⟩:∃W,W=(w2.alloc (.cells #[.bool (rq (-1)).1,.string (rq (-1)).2.1,.string (rq (-1)).2.2] 48)):=⟨_,rfl⟩;obtain⟨mnb,az⟩:∃x,x=w2.heap.size:=⟨_,rfl⟩;have bv:Hid (Kp [xb] w w3):=by rw[ap];exact bu.o.alloc _
 have bN:Hid (Bk w3 w.heap.size 32 (SC s Ap Ac Av cp cc cv)):=by rw[ap];exact bj.o.alloc _
 have bR:Hid (Bk w3 xb 84 [.slice U m cu,.slice none 0 0,.slice none 0 0]):=by rw[ap];exact ba.o.alloc _
 have bc:Hid (Bk w3 mnb 48 [.bool (rq (-1)).1,.string (rq (-1)).2.1,.string (rq (-1)).2.2]):=by rw[ap,az];exact Bk.new _ _ _
 have bO:Hid (w2.heap.size<w3.heap.size/\w.heap.size<w2.heap.size):=⟨by rw[ap];simp,bj.o.lt⟩;have x0:=ba.o.c0;have x9:=ba.o.lt
 go_wp2_with fail
 (try rw[<-ap])
 (try rw[<-az])
 replace ap:=zh ap;clear x0 x9 bu bj ba;have bt:Hid (BdI w3 w3 xb m 0 (.slice U m cu) (Bi (A4 s.cap) u val)):=BdI.start bR.o;have ak:Hid (xb<w3.heap.size/\w.heap.size<w3.heap.size/\mnb<w3.heap.size/\mnb≠xb/\w.heap.size≠xb):=⟨bR.o.lt,bN.o.lt,bc.o.lt,by have:=bO.o;omega,by omega⟩;replace az:=zh az
 go_loopw [21] (fun ix wr=>∃(i:Nat),i<=m/\ix=.int .i64 (i:Int)/\Hid (BdI w3 wr xb m i (.slice U m cu) (Bi (A4 s.cap) u val))) (fun ix _=>m-(intOf ix).toNat)
 case atStart=>exact⟨0,zQ _,rfl,bt⟩
 case round=>
  clear bt;obtain⟨i,hi,rfl,hI⟩:=hrel;obtain⟨wy,rfl⟩:∃z,z=wr:=⟨_,rfl⟩
  by_cases him:i<m
  rotate_left
  .obtain rfl:i=m:=by omega
   go_wp2
   (try simp only[Exit.inBlock,Exit.then])
   go_end0;exact⟨rfl,w3,bv.o,hI.o⟩
  obtain⟨Aa,Ab,ca,cb,bl,ai,aG,aP,aQ,bi,aw⟩:=hI.o;replace ai:=zh ai;replace aG:=zh aG;replace aP:=zh aP;replace aQ:=zh aQ;replace bi:=zh bi;replace aw:=zh aw;clear hI;have bE:i<u.length:=by rw[<-ao.o];exact him
  have bw:Hid (Kp [xb] w wy):=kp_trans bv.o ai.o (fun y hy=>.inl hy);have an:=zh (fun W (h:Below wy.heap.size wy W)=>bw.o.below h);obtain⟨ub,uo,bY,cg,bP⟩:=(a4.o wy bw.o) (by rw[a8.o];omega);subst bY;have e1:=bP i (by rw[a8.o];omega);rw[zz]at e1;obtain⟨b4,a6⟩:=b5.o i bE;obtain⟨p,hp⟩:∃p,p=u[i]'bE:=⟨_,rfl⟩;rw[<-hp]at e1 b4 a6;replace hp:=zh hp;clear bP;have j0:(0:Int)<=(i:Int):=by omega
  have j1:(i:Int)<(m:Int):=by omega
  have x0:=aG.o.c0;have x9:=aG.o.lt;have b1:=FE 39 underlying39 m (by omega);obtain⟨rb,am⟩:∃x,x=wy.heap.size:=⟨_,rfl⟩;obtain⟨w5,aU⟩:∃W,W=(wy.alloc (.cells (AN m fun _=>zraw).toArray 48)):=⟨_,rfl⟩;have bp:Hid (Below wy.heap.size wy w5):=by rw[aU];exact(zI _ wy).alloc (zB _) _
  have bx:Hid (RowB w5 rb m fun j=>if j<0 then rq 0 else zraw):=by rw[aU,am];refine RowB.congr (r:=fun _=>zraw) (yR wy _) fun j _=>?_;rw[zC (yB _)]
  go_wp2_with fail
  (try rw[<-aU])
  (try rw[<-am])
  replace aU:=zh aU;replace am:=zh am;clear b1 x0 x9 e1
  go_loopw [34] (fun kx wr=>∃(k:Nat),k<=m/\kx=.int .i64 (k:Int)/\Hid (Below wy.heap.size wy wr)/\Hid (RowB wr rb m fun j=>if j<k then rq 0 else zraw)) (fun kx _=>m-(intOf kx).toNat)
  case atStart=>exact⟨0,zQ _,rfl,bp,bx⟩
  case round=>
   clear bp bx;obtain⟨k,hk,rfl,aa,aj⟩:=hrel;obtain⟨wz,rfl⟩:∃z,z=wr:=⟨_,rfl⟩
   by_cases hkm:k<m
   .have k0:=zh (bo.o wz (al.o _ (an.o _ aa.o)));have q0:(0:Int)<=(k:Int):=by omega
    have q1:(k:Int)<(m:Int):=by omega
    go_wp2_with fail
    refine k0.o.q fun w6 hb=>?_;have aZ:Hid (Below wy.heap.size wy w6):=aa.o.trans (hb.mono aa.o.size);have ad:Hid (RowB w6 rb m fun j=>if j<k then rq 0 else zraw):=aj.o.below hb aj.o.lt;clear hb k0 aa aj;obtain⟨r1,r2,r3⟩:=ad.o.cell hkm;have f1:=ad.o.frozen (k*3);have f2:=ad.o.frozen (k*3+1);have f3:=ad.o.frozen (k*3+2);have r9:=ad.o.lt;have ax:Hid (wy.heap.size<=rb):=wl am.o.symm;have aA:Hid (Below wy.heap.size wy (((w6.setCell ⟨rb,k*3,none⟩ (.bool (rq (0)).1)).setCell ⟨rb,k*3+1,none⟩ (.string (rq (0)).2.1)).setCell ⟨rb,k*3+2,none⟩ (.string (rq (0)).2.2))):=((aZ.o.setCell (p:=⟨rb,k*3,none⟩) ax.o _).setCell (p:=⟨rb,k*3+1,none⟩) ax.o _).setCell (p:=⟨rb,k*3+2,none⟩) ax.o _;have aK:Hid (RowB (((w6.setCell ⟨rb,k*3,none⟩ (.bool (rq (0)).1)).setCell ⟨rb,k*3+1,none⟩ (.string (rq (0)).2.1)).setCell ⟨rb,k*3+2,none⟩ (.string (rq (0)).2.2)) rb m fun j=>if j<k+1 then rq 0 else zraw):=(ad.o.set hkm (rq 0)).congr fun j _=>by by_cases c:j=k;(· rw[zD c,zD (by omega)]);(· rw[zC c];by_cases d:j<k;(· rw[zD d,zD (by omega)]);(· rw[zC d,zC (by omega)]))
    generalize (if k<k then rq 0 else zraw)=rz at r1 r2 r3;go_wp2;exact⟨⟨k+1,by omega,by go_num,aA,aK⟩,by simp only[intOf];omega⟩
   obtain rfl:k=m:=by omega
   have au:Hid (RowB wz rb k fun _=>rq 0):=aj.o.congr fun j hj=>by rw[zD hj]
   clear aj;have k2:=zh (bU.o wz (al.o _ (an.o _ aa.o)))
   go_wp2_with fail
   refine k2.o.q fun w6 hb=>?_;have aZ:Hid (Below wy.heap.size wy w6):=aa.o.trans (hb.mono aa.o.size);have ad:Hid (RowB w6 rb k fun _=>rq 0):=au.o.below hb au.o.lt;clear hb k2 bU aa au;obtain⟨r1,r2,r3⟩:=ad.o.cell him;have f1:=ad.o.frozen (i*3);have f2:=ad.o.frozen (i*3+1);have f3:=ad.o.frozen (i*3+2);have r9:=ad.o.lt;have ax:Hid (wy.heap.size<=rb):=wl am.o.symm;obtain⟨w7,aV⟩:∃W,W=(((w6.setCell ⟨rb,i*3,none⟩ (.bool (rq (1)).1)).setCell ⟨rb,i*3+1,none⟩ (.string (rq (1)).2.1)).setCell ⟨rb,i*3+2,none⟩ (.string (rq (1)).2.2)):=⟨_,rfl⟩;have aA:Hid (Below wy.heap.size wy w7):=by rw[aV];exact((aZ.o.setCell (p:=⟨rb,i*3,none⟩) ax.o _).setCell (p:=⟨rb,i*3+1,none⟩) ax.o _).setCell (p:=⟨rb,i*3+2,none⟩) ax.o _
   have aK:Hid (RowB w7 rb k fun j=>rq (BW (A4 s.cap) u i 0 j)):=by rw[aV];exact(ad.o.set him (rq 1)).congr fun j _=>by rw[PG];by_cases c:j=i;(· rw[zD c,zD c.symm]);(· rw[zC c,zC (fun e=>c e.symm)])
   have k3:=zh (bo.o w7 (al.o _ (an.o _ aA.o)))
   go_wp2_with fail
   (try rw[<-aV])
   replace aV:=zh aV;refine k3.o.q fun w8 hb=>?_;have a0:Hid (Below wy.heap.size wy w8):=aA.o.trans (hb.mono aA.o.size);have au:Hid (RowB w8 rb k fun j=>rq (BW (A4 s.cap) u i 0 j)):=aK.o.below hb aK.o.lt;clear hb k3 aZ ad aA aK r1 r2 r3 f1 f2 f3 r9 bo;obtain⟨gb,aD⟩:∃x,x=w8.heap.size:=⟨_,rfl⟩;obtain⟨w9,ay⟩:∃W,W=(w8.alloc (.cells #[.bool (rq (0)).1,.string (rq (0)).2.1,.string (rq (0)).2.2] 48)):=⟨_,rfl⟩;have be:Hid (Below wy.heap.size wy w9):=by rw[ay];exact a0.o.alloc a0.o.size _
   have bz:Hid (RowB w9 rb k fun j=>rq (BW (A4 s.cap) u i 0 j)):=by rw[ay];exact au.o.alloc _
   have bq:Hid (Bk w9 gb 48 [.bool (rq (BB (A4 s.cap) u val i 0)).1,.string (rq (BB (A4 s.cap) u val i 0)).2.1,.string (rq (BB (A4 s.cap) u val i 0)).2.2]):=by rw[ay,aD,PH];exact Bk.new _ _ _
   have aF:Hid (rb<gb/\wy.heap.size<=gb):=⟨by rw[aD];exact au.o.lt,by rw[aD];exact a0.o.size⟩;have bk:=zh ((bN.o.kp ai.o (by have:=ak.o;simp;omega)).below be.o);have u1:=bk.o.c1;have u9:=bk.o.lt;rw[ay]at u1 u9
   go_wp2_with fail
   (try rw[<-ay])
   (try rw[<-aD])
   replace ay:=zh ay;replace aD:=zh aD;clear u1 u9 a0 au bk
   go_loopw [50] (fun kx wr=>∃(c:Nat),c<=s.cap.length/\kx=.int .i64 (c:Int)/\Hid (Below wy.heap.size wy wr)/\Hid (RowB wr rb k fun j=>rq (BW (A4 s.cap) u i c j))/\Hid (Bk wr gb 48 [.bool (rq (BB (A4 s.cap) u val i c)).1,.string (rq (BB (A4 s.cap) u val i c)).2.1,.string (rq (BB (A4 s.cap) u val i c)).2.2])) (fun kx _=>s.cap.length-(intOf kx).toNat)
   case atStart=>exact⟨0,zQ _,rfl,be,bz,bq⟩
   case round=>
    clear be bz bq;obtain⟨c,hc,rfl,aa,aj,a2⟩:=hrel;obtain⟨wz,rfl⟩:∃z,z=wr:=⟨_,rfl⟩
    by_cases hcl2:c<s.cap.length
    .obtain ⟨aY,off,bW,b9,bD⟩:=(bm.o wz (an.o _ aa.o)) (by omega);subst bW;obtain⟨e1,e2,e3,e4,e5⟩:=bD c hcl2;obtain⟨co,ho,part,aN,ae,cf,bZ⟩:=bG.o c hcl2;rw[aN]at e1 e2 e3 e4 e5;replace e1:wz.cell? ⟨aY,off+c*5,none⟩=some (.int .i64 (co:Int)):=e1;replace e2:wz.cell? ⟨aY,off+c*5+1,none⟩=some (.int .i64 (ho:Int)):=e2;replace e3:wz.cell? ⟨aY,off+c*5+2,none⟩=some (.bool (rq part).1):=e3;replace e4:wz.cell? ⟨aY,off+c*5+3,none⟩=some (.string (rq part).2.1):=e4;replace e5:wz.cell? ⟨aY,off+c*5+4,none⟩=some (.string (rq part).2.2):=e5;have af:c<(A4 s.cap).length:=by rw[aM.o];exact hcl2
     have aS:(A4 s.cap)[c].2.2=part:=by rw[ae]
     have aR:=Np hL.o af;have a5:=Sw hL.o af;have b3:=zh (fun q=>Sx hL.o hv.o af q);rw[aS]at aR a5;replace aR:=zh aR;replace a5:=zh a5;have bn:Hid (co≠p->(∀j,BW (A4 s.cap) u i (c+1) j=BW (A4 s.cap) u i c j)/\BB (A4 s.cap) u val i (c+1)=BB (A4 s.cap) u val i c):=fun b2=>Su af (by rw[ae,a6];exact b2);have bF:Hid (co=p->∀t (ht:t<u.length),ho=u.getD t 0->(∀j,j<u.length->BW (A4 s.cap) u i (c+1) j=if j=t then BW (A4 s.cap) u i c t+-1*part else BW (A4 s.cap) u i c j)/\BB (A4 s.cap) u val i (c+1)=BB (A4 s.cap) u val i c):=fun he t ht hh=>by have h:=VZ (val:=val) (i:=i) hu.o af (by rw[ae,a6];exact he) ht (by rw[ae];exact hh);rwa [aS]at h
     have bd:Hid (co=p->ho∉u->(∀j,j<u.length->BW (A4 s.cap) u i (c+1) j=BW (A4 s.cap) u i c j)/\BB (A4 s.cap) u val i (c+1)=BB (A4 s.cap) u val i c+part*val ho):=fun he hh=>by have h:=U2 (val:=val) (i:=i) af (by rw[ae,a6];exact he) (by rw[ae];exact hh);rwa [ae]at h
     replace aN:=zh aN;replace ae:=zh ae;replace aS:=zh aS;replace af:=zh af;clear bD;have c0:(0:Int)<=(c:Int):=by omega
     have c1:(c:Int)<(s.cap.length:Int):=by omega
     obtain⟨lb,aE⟩:∃x,x=wz.heap.size:=⟨_,rfl⟩;obtain⟨wa,aq⟩:∃W,W=(wz.alloc (.cells #[.int .i64 (co:Int),.int .i64 (ho:Int),.bool (rq part).1,.string (rq part).2.1,.string (rq part).2.2] 106)):=⟨_,rfl⟩;have aH:Hid (Below wy.heap.size wy wa):=by rw[aq];exact aa.o.alloc aa.o.size _
     have a3:Hid (RowB wa rb k fun j=>rq (BW (A4 s.cap) u i c j)):=by rw[aq];exact aj.o.alloc _
     have a1:Hid (Bk wa gb 48 [.bool (rq (BB (A4 s.cap) u val i c)).1,.string (rq (BB (A4 s.cap) u val i c)).2.1,.string (rq (BB (A4 s.cap) u val i c)).2.2]):=by rw[aq];exact a2.o.alloc _
     have ag:Hid (Bk wa lb 106 [.int .i64 (co:Int),.int .i64 (ho:Int),.bool (rq part).1,.string (rq part).2.1,.string (rq part).2.2]):=by rw[aq,aE];exact Bk.new _ _ _
     have bI:Hid (rb≠lb/\gb≠lb):=⟨by rw[aE];exact yu aj.o.lt,by rw[aE];exact yu a2.o.lt⟩;have y0:=ag.o.c0;have y1:=ag.o.c1;have y9:=ag.o.lt;rw[aq,aE]at y0 y1 y9
     by_cases hcp:co=p
     rotate_left
     .have t1:((co:Int) != (p:Int))=true:=by rw[zy];omega
      have ab:=bn.o hcp;have bA:Hid (RowB wa rb k fun j=>rq (BW (A4 s.cap) u i (c+1) j)):=a3.o.congr fun j _=>by rw[ab.1 j]
      have br:Hid (Bk wa gb 48 [.bool (rq (BB (A4 s.cap) u val i (c+1))).1,.string (rq (BB (A4 s.cap) u val i (c+1))).2.1,.string (rq (BB (A4 s.cap) u val i (c+1))).2.2]):=by rw[ab.2];exact a1.o
      replace hcp:=zh hcp;rw[aq]at aH bA br;clear ab bn bF bd a3 a1 ag;go_wp2;exact⟨⟨c+1,by omega,by go_num,aH,bA,br⟩,by simp only[intOf];omega⟩
     have t1:((co:Int) != (p:Int))=false:=by rw[xF];omega
     have bb:=zh hcp;clear hcp;have aX:=zh (aG.o.below aH.o);clear bn y0 y1 y9;have y0:=ag.o.c0;have y9:=ag.o.lt;rw[aq,aE]at y0 y9
     go_wp2_with fail
     subst aq;subst aE;clear y0 y9;have b0:=zh (fun W (h:Below wy.heap.size wy W)=>an.o W h);have ah:Hid (Below wy.heap.size wy (wz.alloc (.cells #[.int .i64 (co:Int),.int .i64 (ho:Int),.bool (rq part).1,.string (rq part).2.1,.string (rq part).2.2] 106)).drew):=aH.o.drew;have bC:Hid ((wz.alloc (.cells #[.int .i64 (co:Int),.int .i64 (ho:Int),.bool (rq part).1,.string (rq part).2.1,.string (rq part).2.2] 106)).drew.cell? ⟨xb,0,none⟩=some (.slice (some ⟨ub,uo,none⟩) k cu)/\(wz.alloc (.cells #[.int .i64 (co:Int),.int .i64 (ho:Int),.bool (rq part).1,.string (rq part).2.1,.string (rq part).2.2] 106)).drew.cell? ⟨wz.heap.size,1,none⟩=some (.int .i64 (ho:Int))):=⟨aX.o.c0,ag.o.c1⟩;have x0:=aX.o.c0;have x9:=aX.o.lt;have y1:=ag.o.c1;have y9:=ag.o.lt
     go_region_held3 (fun W=>W.cell? ⟨xb,0,none⟩=some (.slice (some ⟨ub,uo,none⟩) k cu)/\W.cell? ⟨wz.heap.size,1,none⟩=some (.int .i64 (ho:Int))) (first|(with_reducible exact bC.o)|(with_reducible exact⟨aX.o.c0,ag.o.c1⟩)|go_keep) (first|(go_at_call 75;refine(kix.o _ _ (b0.o _ ah.o)).q fun w7b hq=>?_;obtain rfl:=hq.symm))
     clear x0 x9 y1 y9 bC;have aL:Hid (RowB (wz.alloc (.cells #[.int .i64 (co:Int),.int .i64 (ho:Int),.bool (rq part).1,.string (rq part).2.1,.string (rq part).2.2] 106)).drew rb k fun j=>rq (BW (A4 s.cap) u i c j)):=a3.o;have aI:Hid (Bk (wz.alloc (.cells #[.int .i64 (co:Int),.int .i64 (ho:Int),.bool (rq part).1,.string (rq part).2.1,.string (rq part).2.2] 106)).drew gb 48 [.bool (rq (BB (A4 s.cap) u val i c)).1,.string (rq (BB (A4 s.cap) u val i c)).2.1,.string (rq (BB (A4 s.cap) u val i c)).2.2]):=a1.o;have aJ:Hid (Bk (wz.alloc (.cells #[.int .i64 (co:Int),.int .i64 (ho:Int),.bool (rq part).1,.string (rq part).2.1,.string (rq part).2.2] 106)).drew wz.heap.size 106 [.int .i64 (co:Int),.int .i64 (ho:Int),.bool (rq part).1,.string (rq part).2.1,.string (rq part).2.2]):=ag.o;obtain⟨wd,a9⟩:∃W,W=(wz.alloc (.cells #[.int .i64 (co:Int),.int .i64 (ho:Int),.bool (rq part).1,.string (rq part).2.1,.string (rq part).2.2] 106)).drew:=⟨_,rfl⟩;rw[<-a9]at ah aL aI aJ
     (try rw[<-a9])
     replace a9:=zh a9;clear aH a3 a1 ag aX;have aO:Hid (Bk wd mnb 48 [.bool (rq (-1)).1,.string (rq (-1)).2.1,.string (rq (-1)).2.2]):=(bc.o.kp ai.o (by have:=ak.o;simp;omega)).below ah.o;have bH:Hid (rb≠mnb):=fun e=>by have h1:=ak.o;have h2:=ai.o.size;have h3:=am.o;omega
     by_cases hu1:ho∈u
     .obtain⟨t,ht,a7⟩:∃t,t<u.length/\ho=u.getD t 0:=⟨u.idxOf ho,List.idxOf_lt_length_iff.2 hu1,(Gd hu1).symm⟩;have av:GA (u.map fun(q:Nat)=>(q:Int)) (ho:Int)=(t:Int):=Xh hu.o ht a7;have ab:=bF.o bb.o t ht a7;rw[av];rw[<-ao.o]at ht ab;replace ab:=zh ab;replace av:=zh av;replace hu1:=zh hu1;replace a7:=zh a7;have t2:decide ((0:Int)<=(t:Int))=true:=zG (by omega)
      go_wp2_with fail
      refine XF mnb rb wz.heap.size k t _ (BW (A4 s.cap) u i c t) part _ _ wd (al.o _ (an.o _ ah.o)) ht (by omega) aL.o rfl aO.o aJ.o bH.o bI.o.1 (Iu hL.o) aR.o a5.o ?_;intro _ _ _ _ _ _ _ _ _ _ _ we bB ar;have bf:Hid (Below wy.heap.size wy we):=ar.o.to_below ah.o (fun x hx=>by have:=am.o;simp at hx;omega);have aC:Hid (RowB we rb k fun j=>rq (BW (A4 s.cap) u i (c+1) j)):=bB.o.congr fun j hj=>by rw[ab.o.1 j hj];split<;>rfl
      have aB:Hid (Bk we gb 48 [.bool (rq (BB (A4 s.cap) u val i (c+1))).1,.string (rq (BB (A4 s.cap) u val i (c+1))).2.1,.string (rq (BB (A4 s.cap) u val i (c+1))).2.2]):=by rw[ab.o.2];exact aI.o.kp ar.o (by have:=aF.o;simp;omega)
      clear bB ar aL aI aJ ah aO;go_wp2;exact⟨⟨c+1,by omega,by go_num,bf,aC,aB⟩,by simp only[intOf];omega⟩
     have av:GA (u.map fun(q:Nat)=>(q:Int)) (ho:Int)=-1:=Wa hu1;have ab:=bd.o bb.o hu1;rw[av];rw[<-ao.o]at ab;replace ab:=zh ab;replace av:=zh av;replace hu1:=zh hu1;have bK:=zh (b3.o ho);rw[aS.o]at bK
     go_wp2_with fail
     refine XG gb wz.heap.size vb (ho:Int) (BB (A4 s.cap) u val i c) part (val ho) _ wd (al.o _ (an.o _ ah.o)) aI.o aJ.o bI.o.2 (Iv hL.o hv.o) aR.o (hv.o.short ho) bK.o (fun W hW=>kva.o W ho bZ (an.o _ (ah.o.trans (hW.mono ah.o.size)))) ?_;intro _ _ _ _ _ _ _ _ we bs ar;have bf:Hid (Below wy.heap.size wy we):=ar.o.to_below ah.o (fun x hx=>by have:=aF.o;simp at hx;omega);have aC:Hid (RowB we rb k fun j=>rq (BW (A4 s.cap) u i (c+1) j)):=(Ky aL.o ar.o (by have:=aF.o;simp;omega)).congr fun j hj=>by rw[ab.o.1 j hj]
     have aB:Hid (Bk we gb 48 [.bool (rq (BB (A4 s.cap) u val i (c+1))).1,.string (rq (BB (A4 s.cap) u val i (c+1))).2.1,.string (rq (BB (A4 s.cap) u val i (c+1))).2.2]):=by rw[ab.o.2];exact bs.o
     clear bs ar aL aI aJ ah aO;go_wp2;exact⟨⟨c+1,by omega,by go_num,bf,aC,aB⟩,by simp only[intOf];omega⟩
    obtain rfl:c=s.cap.length:=by omega
    have aC:Hid (RowB wz rb k fun j=>rq (Bi (A4 s.cap) u val i j)):=aj.o.congr fun j hj=>by rw[<-aM.o,LC (val:=val) (by rw[<-ao.o];exact hj)]
    have aB:Hid (Bk wz gb 48 [.bool (rq (Bi (A4 s.cap) u val i k)).1,.string (rq (Bi (A4 s.cap) u val i k)).2.1,.string (rq (Bi (A4 s.cap) u val i k)).2.2]):=by have h:=a2.o;rw[<-aM.o,LD,<-ao.o]at h;exact h
    have bS:=zh (aG.o.below aa.o);have bJ:=zh (AC aP.o aa.o);have bL:=zh (AC aQ.o aa.o);clear aj a2 bG kix kva
    go_wp2_with fail
    refine XH xb gb rb k i ca cb w3.heap.size Aa Ab _ _ _ (rq (Bi (A4 s.cap) u val i k)) wz (by omega) bS.o aB.o (by have h1:=ak.o;have h2:=ai.o.size;have h3:=aF.o;omega) (zS ai.o.size aa.o.size) ak.o.1 bJ.o bL.o bi.o (fun e=>by have h1:=(aP.o.lt _ e).2;have h3:=aF.o;omega) (fun e=>by have h1:=(aQ.o.lt _ e).2;have h3:=aF.o;omega) ?_;intro _ _ _ _ _ _ _ _ _ _ _ _ _ _ _ _ _ _ _ _ Aa2 Ab2 b7 b8 we k1 k2 k3 k4 k5 k6 k7;have bX:Hid (BdI w3 we xb k (i+1) (.slice (some ⟨ub,uo,none⟩) k cu) (Bi (A4 s.cap) u val)):=BdI.step ai.o aP.o aQ.o aw.o aa.o am.o (by have h1:=ak.o;have h2:=ai.o.size;omega) aC.o k1.o k2.o k3.o k4.o k5.o k6.o k7.o;clear k1 k2 k3 k4 k5 k6 k7 bS bJ bL aC aB aa;go_wp2;exact⟨⟨i+1,by omega,by go_num,bX⟩,by simp only[intOf];omega⟩
theorem Iy{n D:Nat}{L:List Lp}{u:List Nat}{val:Nat->Rat}(hL:Caps n L)(hv:Vals val D){i j:Nat}(hj:j<=u.length):ShortQ (Bi L u val i j):=by
 by_cases e:j=u.length
 .rw[e,<-LD];exact Iv hL hv
 rw[<-LC (val:=val) (by omega:j<u.length)];exact Iu hL
theorem Nq{W:World}{b n:Nat}{f:Nat->Rat}(h:RowB W b n fun j=>rq (f j)):InRow W (some ⟨b,0,none⟩) (BP n f):=fun _=>⟨b,0,rfl,h.lt,fun j hj=>by
 have d:j<n:=by rwa [AG]at hj
 obtain⟨c1,c2,c3⟩:=h.cell d;rw[EG];rw[yE];exact⟨c1,c2,c3⟩⟩
theorem BdI.slv{n D:Nat}{w W:World}{xb:Nat}{uv:Value}{L:List Lp}{u:List Nat}{val:Nat->Rat}(h:BdI w W xb u.length u.length uv (Bi L u val))(hL:Caps n L)(hv:Vals val D)(h8:u.length<=8):
 ∃(Aa Ab:Option Addr)(ca cb:Nat)(la:List RowH),Kp [xb] w W/\Bk W xb 84 [uv,.slice Aa u.length ca,.slice Ab u.length cb]/\la.length=u.length/\SysIn W Aa Ab la (Fm L u val)/\BA la=CR L u val:=by
 obtain⟨Aa,Ab,ca,cb,bl,hK,hx,ae,af,ag,aa⟩:=h
 let la:List RowH:=(List.range u.length).map fun k=>((some ⟨bl k,0,none⟩:Option Addr),u.length,BP u.length (Bi L u val k))
 have d:la.length=u.length:=by simp[la]
 have ab:∀x∈la,∃k,k<u.length/\x=((some ⟨bl k,0,none⟩:Option Addr),u.length,BP u.length (Bi L u val k)):=fun x hx=>by
  obtain⟨k,hk,rfl⟩:=List.mem_map.1 hx;exact⟨k,List.mem_range.1 hk,rfl⟩
 have ad:(List.range u.length).map (fun k=>Value.slice (some ⟨bl k,0,none⟩) u.length u.length)=la.map hdr:=by
  simp only[la,xm];refine xh fun k _=>?_;simp[hdr,AG]
 obtain ⟨A1,c1,e1,hM⟩:=inMat_of_own (L:=la) (v:=.slice Aa u.length ca) (by rw[<-ad,d];exact ae) (fun x hx=>by
  obtain⟨k,hk,rfl⟩:=ab x hx;exact Nq (aa k hk).1)
 obtain⟨A2,c2,e2,hR⟩:=FZ af;rw[d]at e1;injection e1 with q1 _ _;injection e2 with q2 _ _;subst q1;subst q2;refine⟨Aa,Ab,ca,cb,la,hK,hx,d,⟨hM,hR,by omega,by rw[show (Fm L u val).length=u.length from AG _ _];omega,fun x hx=>?_,fun x hx=>?_⟩,?_⟩
 .obtain⟨k,hk,rfl⟩:=ab x hx;refine⟨by show (BP _ _).length<=_;rw[AG];omega,fun y hy=>?_⟩;obtain⟨j,hj,rfl⟩:=List.mem_map.1 (show y∈BP u.length (Bi L u val k) from hy);exact LA (Iy hL hv (xW (List.mem_range.1 hj))).ok
 .obtain⟨j,hj,rfl⟩:=List.mem_map.1 (show x∈BP u.length (fun i=>Bi L u val i u.length) from hx);exact LA (Iy hL hv (zB _)).ok
 simp[BA,la,CR,List.map_map]
theorem U5{n D:Nat}{L:List Lp}{F done u:List Nat}{val:Nat->Rat}(hL:Caps n L)(hi:Inv L F done val D)(hx:Nxt L F done u)(d:done.length+u.length<=16)(h8:u.length<=8)
 {W:World}{Aa Ab:Option Addr}{ca cb:Nat}{la:List RowH}(hE:Env W)(hl:la.length=u.length)(hs:SysIn W Aa Ab la (Fm L u val))(hr:BA la=CR L u val):
 Calls prog 39 #[.slice Aa u.length ca,.slice Ab u.length cb] W fun e w'=>(∃p c,e=.returned (.tuple #[.slice p u.length c,.int .i64 0])/\InRow w' p (BP u.length fun i=>Cu SQ L u val (u.getD i 0)))/\Below W.heap.size W w':=by
 have h:=U0 Aa Ab ca cb la (Fm L u val) W hE hs;have hb:(Fm L u val).length=u.length:=AG _ _;rw[hr,LB hL hi hx d h8,hl,hb]at h;refine h.mono fun e w' ⟨⟨p,c,e1,e2⟩,hB⟩=>⟨⟨p,c,?_,e2⟩,hB⟩;rw[e1]
 show Ending.returned (.tuple #[.slice p (BP u.length _).length c,.int .i64 0])=_
 rw[AG]
structure VMC(w:World)(vb mb n:Nat)(val:Nat->Rat)(C:Nat):Prop where
 x:Bk w vb 77 [.map (some mb)]
 m:∃c f,MapK prog 3 κi w mb c f/\c<=C/\∀p:Nat,p<n->match f (p:Int) with|some v=>v=qv (val p)|none=>val p=0
 ne:vb≠mb
section
variable {w w':World} {vb mb n C:Nat} {val:Nat->Rat}
theorem VMC.vm(h:VMC w vb mb n val C)(hC:C<=100000):VM w vb mb n val:=by
 obtain⟨c,f,h1,h2,h3⟩:=h.m;exact⟨h.x,c,f,h1,by omega,h3⟩
theorem VMC.lt(h:VMC w vb mb n val C):mb<w.heap.size:=by
 obtain⟨c,f,h1,_⟩:=h.m;exact h1.lt
theorem VMC.kp{xs:List Nat}(h:VMC w vb mb n val C)(hk:Kp xs w w')(h1:vb∉xs)(h2:mb∉xs):VMC w' vb mb n val C:=by
 obtain⟨c,f,a1,a2,a3⟩:=h.m;exact⟨h.x.kp hk h1,⟨c,f,a1.block (hk.block mb a1.lt h2),a2,a3⟩,h.ne⟩
theorem VMC.below(h:VMC w vb mb n val C)(hb:Below w.heap.size w w'):VMC w' vb mb n val C:=by
 obtain⟨c,f,a1,a2,a3⟩:=h.m;exact⟨h.x.below hb,⟨c,f,a1.below hb,a2,a3⟩,h.ne⟩
theorem VMC.congr{val':Nat->Rat}(h:VMC w vb mb n val C)(e:∀p,p<n->val' p=val p):VMC w vb mb n val' C:=by
 obtain⟨c,f,a1,a2,a3⟩:=h.m;exact⟨h.x,⟨c,f,a1,a2,fun p hp=>by rw[e p hp];exact a3 p hp⟩,h.ne⟩
theorem VMC.put(h:VMC w vb mb n val C)(hC:C<100000){p:Nat}(hp:p<100000)(q:Rat):
 ∃w',(Instr.mapUpdate 77 (.map (some mb)) (.int .i64 (p:Int)) (qv q)).run prog w=.ok () w'/\VMC w' vb mb n (fun x=>if x=p then q else val x) (C+1)/\w.grownBy w' (some mb):=by
 obtain⟨c,f,a1,a2,a3⟩:=h.m;obtain⟨w',r1,r2,r3⟩:=a1.put Gy FA underlying77 (by unfold maxLen;omega) (Ew underlying3 (a:=(p:Int)) (by omega) (by omega)) (qv q);refine⟨w',r1,⟨h.x.grown r3 (by simpa using h.ne),⟨_,_,r2,?_,fun x hx=>?_⟩,h.ne⟩,r3⟩
 .split<;>omega
 by_cases e:x=p
 .subst e;rw[Bg,zD rfl]
 rw[Bj (by omega),zC e];exact a3 x hx
end
theorem inInt_kp{w w':World}{xs:List Nat}{A:Option Addr}{l:List Int}(h:InInt w A l)(hk:Kp xs w w')(hb:∀b o,A=some ⟨b,o,none⟩->b∉xs):InInt w' A l:=fun h0=>by
 obtain⟨b,o,e,hl,hc⟩:=h h0;have d:=hk.block b hl (hb b o e);exact⟨b,o,e,zJ hl hk.size,fun j hj=>(zT (a:=⟨b,o+j,none⟩) d).trans (hc j hj)⟩
structure EntB(W:World)(B xb:Nat)(A:Option Addr)(c:Nat)(u:List Nat):Prop where
 x:Bk W xb 84 [.slice A u.length c,.slice none 0 0,.slice none 0 0]
 o:W.ownsRow B 3 1 (.slice A u.length c) u.length (Bw u)
 nx:(Value.slice A u.length c).ownBlock≠some xb
section
variable {W W':World} {B xb c:Nat} {A:Option Addr} {u:List Nat}
theorem EntB.start(h:Bk W xb 84 [.slice none 0 0,.slice none 0 0,.slice none 0 0]):EntB W B xb none 0 [] :=
 ⟨h,yO _ _ _ _,by simp[Value.ownBlock]⟩
theorem EntB.below(h:EntB W B xb A c u)(hb:Below W.heap.size W W'):EntB W' B xb A c u:=⟨h.x.below hb,AC h.o hb,h.nx⟩
theorem EntB.inInt(h:EntB W B xb A c u):InInt W A (u.map fun(q:Nat)=>(q:Int)):=fun h0=>by
 rcases Dp h.o with⟨e,e2⟩|⟨g,cap,e,h1,h2,_,h4⟩
 .rw[e2]at h0;simp at h0
 injection e with e1 _ _;refine⟨g,0,e1,h2,fun j hj=>?_⟩;have d:j<u.length:=by simpa using hj
 rw[zz,yE];exact h4 j d
theorem EntB.blk(h:EntB W B xb A c u)(b o:Nat)(e:A=some ⟨b,o,none⟩):B<=b/\b<W.heap.size/\b≠xb:=by
 rcases Dp h.o with⟨e1,_⟩|⟨g,cap,e1,h1,h2,_,_⟩
 .injection e1 with e1 _ _;rw[e]at e1;cases e1
 injection e1 with e1 _ _;have hb:b=g:=by rw[e]at e1;injection e1 with e1;injection e1
 subst hb;have ho:o=0:=by rw[e]at e1;injection e1 with e1;injection e1
 subst ho;refine⟨h1,h2,fun hx=>h.nx ?_⟩;rw[e,<-hx];rfl
theorem EntB.step(h:EntB W B xb A c u){p:Nat}{v':Value}{w':World}(ho:w'.ownsRow B 3 1 v' (u.length+1) (Bw u++[.int .i64 (p:Int)]))(hg:W.grownBy w' (Value.slice A u.length c).ownBlock)
 (hn:v'.ownBlock=(Value.slice A u.length c).ownBlock\/v'.ownBlock=some W.heap.size):∃A' c',v'=.slice A' (u.length+1) c'/\EntB (w'.setCell ⟨xb,0,none⟩ v') B xb A' c' (u++[p])/\Bk w' xb 84 [.slice A u.length c,.slice none 0 0,.slice none 0 0]:=by
 obtain⟨A',c',rfl⟩:=Ci.CK ho;have hx:=h.x.grown hg fun e=>h.nx e.symm
 have d:(Value.slice A' (u.length+1) c').ownBlock≠some xb:=fun e=>by
  rcases hn with c1|c1
  .exact h.nx (c1▸e)
  rw[c1]at e;cases e;exact absurd h.x.lt (xV _)
 have hl:(u++[p]).length=u.length+1:=by simp
 refine⟨A',c',rfl,⟨?_,?_,?_⟩,hx⟩
 .rw[hl];exact hx.set 0 _
 .rw[hl,Ei];exact On ho ((Kp.refl [xb] w').set _ (.inl (by simp))) (fun b e hb=>d (by rw[e,List.mem_singleton.1 hb]))
 rw[hl];exact d
end
structure Ent where
 x:Nat
 A:Option Addr
 c:Nat
 u:List Nat
def Ent.pt(e:Ent):Value:=.pointer (some ⟨e.x,0,none⟩)
structure SyM(W:World)(B:Nat)(v:Value)(E:List Ent):Prop where
 row:W.ownsRow B 81 1 v E.length (E.map Ent.pt)
 ent:∀e,e∈E->Bk W e.x 84 [.slice e.A e.u.length e.c,.slice none 0 0,.slice none 0 0]/\InInt W e.A (e.u.map fun(q:Nat)=>(q:Int))/\B<=e.x
 blk:∀e,e∈E->∀b o,e.A=some ⟨b,o,none⟩->B<=b/\b<W.heap.size/\∀f,f∈E->b≠f.x
 nd:(E.map Ent.x).Nodup
 rb:∀b,v.ownBlock=some b->∀e,e∈E->b≠e.x/\∀o,e.A≠some ⟨b,o,none⟩
section
variable {W W':World} {B:Nat} {v:Value} {E:List Ent}
theorem SyM.start(W:World)(B:Nat):SyM W B (.slice none 0 0) [] :=
 ⟨yO _ _ _ _,(fun e h=>by cases h),(fun e h=>by cases h),vP,fun b e=>by cases e⟩
theorem SyM.below(h:SyM W B v E)(hb:Below W.heap.size W W'):SyM W' B v E :=
 ⟨AC h.row hb,fun e he=>⟨(h.ent e he).1.below hb,(h.ent e he).2.1.below hb,(h.ent e he).2.2⟩,fun e he b o q=>by
   obtain⟨h1,h2,h3⟩:=h.blk e he b o q;exact⟨h1,zJ h2 hb.size,h3⟩,h.nd,h.rb⟩
theorem SyM.add{W2 W3:World}{v':Value}{e:Ent}(h:SyM W B v E)(hB:B<=W.heap.size)(hb:Below W.heap.size W W2)(hx:Bk W2 e.x 84 [.slice e.A e.u.length e.c,.slice none 0 0,.slice none 0 0])(hi:InInt W2 e.A (e.u.map fun(q:Nat)=>(q:Int)))
 (hn:W.heap.size<=e.x)(hA:∀b o,e.A=some ⟨b,o,none⟩->W.heap.size<=b/\b<W2.heap.size/\b≠e.x)
 (ho:W3.ownsRow B 81 1 v' (E.length+1) (E.map Ent.pt++[e.pt]))(hg:W2.grownBy W3 v.ownBlock)(hv:v'.ownBlock=v.ownBlock\/∃b,v'.ownBlock=some b/\W2.heap.size<=b):SyM W3 B v' (E++[e]):=by
 have h2:=h.below hb;have rlt:∀b,v.ownBlock=some b->b<W.heap.size:=fun b q=>(h.row.lt b q).2;have xlt:∀f,f∈E->f.x<W.heap.size:=fun f hf=>(h.ent f hf).1.lt;have key:∀f,f∈E++[e]->f∈E\/f=e:=fun f hf=>by simpa using hf
 refine⟨by rw[zV,zw];exact ho,fun f hf=>?_,fun f hf b o q=>?_,?_,fun b q f hf=>?_⟩
 .rcases key f hf with c|rfl
  .obtain⟨e1,e2,e3⟩:=h2.ent f c;refine⟨e1.grown hg fun q=>(h.rb _ q.symm f c).1 rfl,fun h0=>?_,e3⟩;obtain⟨b,o,q,hl,hc⟩:=e2 h0;refine⟨b,o,q,zJ hl hg.size,fun j hj=>(zT (a:=⟨b,o+j,none⟩) (hg.block b hl fun z=>?_)).trans (hc j hj)⟩;exact(h.rb b z.symm f c).2 o q
  refine⟨hx.grown hg fun q=>?_,fun h0=>?_,zS hB hn⟩
  .have:=rlt _ q.symm;omega
  obtain⟨b,o,q,hl,hc⟩:=hi h0;refine⟨b,o,q,zJ hl hg.size,fun j hj=>(zT (a:=⟨b,o+j,none⟩) (hg.block b hl fun z=>?_)).trans (hc j hj)⟩;have:=rlt _ z.symm;have:=(hA b o q).1;omega
 .rcases key f hf with c|rfl
  .obtain⟨e1,e2,e3⟩:=h.blk f c b o q;refine⟨e1,zJ e2 (zS hb.size hg.size),fun g aa=>?_⟩
   rcases key g aa with d|rfl
   .exact e3 g d
   omega
  obtain⟨e1,e2,e3⟩:=hA b o q;refine⟨by omega,zJ e2 hg.size,fun g aa=>?_⟩
  rcases key g aa with d|rfl
  .have:=xlt g d;omega
  exact e3
 .rw[zw,List.map_singleton];refine List.nodup_append.2 ⟨h.nd,by simp,fun a ha b ad=>?_⟩;obtain⟨f,hf,rfl⟩:=List.mem_map.1 ha;rw[List.mem_singleton.1 ad];have:=xlt f hf;omega
 have ab:v.ownBlock=some b\/W2.heap.size<=b:=by
  rcases hv with c|⟨b2,c,d⟩
  .exact .inl (c▸q)
  rw[c]at q;cases q;exact .inr d
 have ae:e.x<W2.heap.size:=hx.lt;have ag:=hb.size
 rcases key f hf with c|rfl
 .rcases ab with d|d
  .exact h.rb b d f c
  refine⟨by have:=xlt f c;omega,fun o z=>?_⟩;have:=(h.blk f c b o z).2.1;omega
 rcases ab with d|d
 .have af:=rlt b d;refine⟨by omega,fun o z=>?_⟩;have:=(hA b o z).1;omega
 refine⟨by omega,fun o z=>?_⟩;have:=(hA b o z).2.1;omega
end
end Sh
end
section
open Go.RowKit Go.Shelf
namespace Sh
open Nt Ci
theorem Sy(k:Int)(q:Rat)(hq:(k:Rat)=q)(hk:-10<=k/\k<=10)(w:World)(hE:Env w):
 Calls prog 36 #[.int .i64 k] w fun e w'=>e=.returned (.agg #[.bool (rq q).1,.string (rq q).2.1,.string (rq q).2.2])/\Below w.heap.size w w':=Gf k q hq hk w hE
theorem Oo{w:World}{vb mb n C:Nat}{val:Nat->Rat}(h:VMC w vb mb n val C)(hC:C<100000){p:Nat}(hp:p<100000)(q:Rat):
 ∃w',(Instr.mapUpdate 77 (.map (some mb)) (.int .i64 (p:Int)) (.agg #[.bool (rq q).1,.string (rq q).2.1,.string (rq q).2.2])).run prog w=.ok () w'/\VMC w' vb mb n (fun x=>if x=p then q else val x) (C+1)/\w.grownBy w' (some mb):=h.put hC hp q
noncomputable def efR(j:Nat):Code:=((Tryz.f12.body.map Ci.Bo).bind fun l=>l.find? (Sr j)).getD .skip
theorem ef9{c0 c1 c2 c3 c4 c5 c6 c7 c8 c9 bx bz bA bB bC bD bE bF bG bH bI bJ bK bL bM bN bO bP bQ bR bS bT bU bW bX bY bZ b0 b1 b2 b3 b4 b5 b6 b7 b8 b9 cb cd cf cg ch ci cj ck cm cn cq cr ct cu cx cy cz cA cB cC cD cE cF cG cH cI cJ cK cL cM cN cP cR cS cT cU cV cW cX cY cZ da db dc dd de dg dh ab ad ae af ag ah ai aj ak al am an ao ap aq ar au av aw ax ay az aA aB aC aD aE aF aG aH aI aJ aK aL aM aN aO aP aQ aR aS aT aU aV aW aX aY aZ a0 a1 a2 a3 a4 a5 a6 a7 a8 a9 ba bb bc bd be bf bg bh bi bj bk bm bn bo bp bq br bs bt bu dk dl dm:Value}{Q:Exit->Act->World->Prop}(vb mb n C p:Nat)(val:Nat->Rat)(w:World)(hE:Env w)(hV:VMC w vb mb n val C)(hC:C<100000)(hp:p<100000)
 (h:∀(u58 u59 u60:Value)(W:World)(_:Hid (VMC W vb mb n (fun x=>if x=p then 1 else val x) (C+1)))(_:Hid (Kp [mb] w W)),Q .normal ⟨#[c0,c1,c2,c3,c4,c5,c6,c7,c8,c9,.pointer (some ⟨vb,0,none⟩),bx,.int .i64 (p:Int),bz,bA,bB,bC,bD,bE,bF,bG,bH,bI,bJ,bK,bL,bM,bN,bO,bP,bQ,bR,bS,bT,bU,bW,bX,bY,bZ,b0,b1,b2,b3,b4,b5,b6,b7,b8,b9,cb,cd,cf,cg,ch,ci,cj,ck,cm,u58,u59,u60,cn,cq,cr,ct,cu,cx,cy,cz,cA,cB,cC,cD,cE,cF,cG,cH,cI,cJ,cK,cL,cM,cN,cP,cR,cS,cT,cU,cV,cW,cX,cY,cZ,da,db,dc,dd,de,dg,dh,ab,ad,ae,af,ag,ah,ai,aj,ak,al,am,an,ao,ap,aq,ar,au,av,aw,ax,ay,az,aA,aB,aC,aD,aE,aF,aG,aH,aI,aJ,aK,aL,aM,aN,aO,aP,aQ,aR,aS,aT,aU,aV,aW,aX,aY,aZ,a0,a1,a2,a3,a4,a5,a6,a7,a8,a9,ba,bb,bc,bd,be,bf,bg,bh,bi,bj,bk,bm,bn,bo,bp,bq,br,bs,bt,bu],[]⟩ W):
 Code.wp prog (efR 9) Q ⟨#[c0,c1,c2,c3,c4,c5,c6,c7,c8,c9,.pointer (some ⟨vb,0,none⟩),bx,.int .i64 (p:Int),bz,bA,bB,bC,bD,bE,bF,bG,bH,bI,bJ,bK,bL,bM,bN,bO,bP,bQ,bR,bS,bT,bU,bW,bX,bY,bZ,b0,b1,b2,b3,b4,b5,b6,b7,b8,b9,cb,cd,cf,cg,ch,ci,cj,ck,cm,dk,dl,dm,cn,cq,cr,ct,cu,cx,cy,cz,cA,cB,cC,cD,cE,cF,cG,cH,cI,cJ,cK,cL,cM,cN,cP,cR,cS,cT,cU,cV,cW,cX,cY,cZ,da,db,dc,dd,de,dg,dh,ab,ad,ae,af,ag,ah,ai,aj,ak,al,am,an,ao,ap,aq,ar,au,av,aw,ax,ay,az,aA,aB,aC,aD,aE,aF,aG,aH,aI,aJ,aK,aL,aM,aN,aO,aP,aQ,aR,aS,aT,aU,aV,aW,aX,aY,aZ,a0,a1,a2,a3,a4,a5,a6,a7,a8,a9,ba,bb,bc,bd,be,bf,bg,bh,bi,bj,bk,bm,bn,bo,bp,bq,br,bs,bt,bu],[]⟩ w:=by
 conv=>arg 2;whnf
 conv=>arg 4;zeta
 replace h:=zh h;have bv:Hid (Below w.heap.size w w.drew):=(zI _ w).drew;have kn:=zh (fun W hW=>Sy 1 1 (by decide +kernel) (by omega) W hW);have dr:Hid (w.drew.cell? ⟨vb,0,none⟩=some (.map (some mb))):=(hV.below (zI _ w).drew).x.c0;replace hE:=zh hE;replace hV:=zh hV;refine yx ?_;refine yq (S:=fun W=>W.cell? ⟨vb,0,none⟩=some (.map (some mb))) (by kernel_rfl) (dr.o) (fun d=>?_);replace d:=zh d;refine tkgH (v:=?_) 0 rfl (d.o) (Or.inl ⟨by rfl,?_⟩) ?_;rotate_left
 . (intro w bw;obtain q1:=bw;go_simp<;>with_reducible rfl)
 try simp only[Act.put,zA]
 refine tkgH (v:=?_) 1 rfl (d.o) (Or.inl ⟨by rfl,?_⟩) ?_;rotate_left
 . (intro w bw;obtain q1:=bw;go_simp<;>with_reducible rfl)
 try simp only[Act.put]
 refine zU (rs:=[2]) (by kernel_rfl) (by simp) ?_;refine zK (o:=_) rfl (fun K hK=>?_) ?_
 .go_simp;refine(kn.o _ (hE.o.below bv.o)).q fun W2 hb=>?_;have di:Hid (Below w.heap.size w W2):=bv.o.trans (hb.mono bv.o.size);have dj:Hid (VMC W2 vb mb n val C):=hV.o.below di.o;clear hb;refine hK.o _ _ (dj.o.x.c0) (fun _=>?_);clear hK K
  try simp only[Act.put,zA,zF,zE]
  obtain⟨W3,ds,aa,hg⟩:=Oo dj.o hC hp 1;have dq:Hid (Kp [mb] w W3):=((Kp.refl [mb] w).below di.o).grown hg (fun b e=>.inl (by cases e;simp));replace aa:=zh aa;clear hg;refine zU (rs:=[3]) (by kernel_rfl) (by simp) ?_;refine zK (o:=_) rfl (fun K hK=>?_) ?_
  .go_simp;refine hK.o _ _ (aa.o.x.c0) (fun _=>?_);clear hK K
   try simp only[Act.put,zA,zF,zE]
   refine yz (by kernel_rfl) ?_ _;refine yX ?_;exact h.o _ _ _ _ aa dq
  exact zR
 exact zR
theorem XI{c0 c1 c2 c3 c4 c5 c6 c7 c8 c9 bx bz bA bB bC bD bE bF bG bH bI bJ bK bL bM bN bO bP bQ bR bS bT bU bW bX bY bZ b0 b1 b2 b3 b4 b5 b6 b7 b8 b9 cb cd cf cg ch ci cj ck cm cn cq cr ct cx cy cz cA cB cC cD cE cF cG cH cI cJ cK cL cM cN cP cR cS cT cU cV cW cX cY cZ da db dc dd de dg dh di dj ae af ag ah ai aj ak al am an ao ap aq ar au av aw ax ay az aA aB aC aD aE aF aG aH aI aJ aK aL aM aN aO aP aQ aR aS aT aU aV aW aX aY aZ a0 a1 a2 a3 a4 a5 a6 a7 a8 a9 ba bb bc bd be bf bg bh bi bj bk bm bn bo bp bq br bs bt bu bv bw:Value}{Q:Exit->Act->World->Prop}(vb mb n C p xb ub uo m cu i lb:Nat)(q:Rat)(val:Nat->Rat)(w:World)(hV:VMC w vb mb n val C)(hC:C<100000)(hp:p<100000)(hi:i<m)(hx:w.cell? ⟨xb,0,none⟩=some (.slice (some ⟨ub,uo,none⟩) m cu))(dl:xb<w.heap.size)(hu:w.cell? ⟨ub,uo+i,none⟩=some (.int .i64 (p:Int)))(dk:ub<w.heap.size)(hl:Bk w lb 48 [.bool (rq q).1,.string (rq q).2.1,.string (rq q).2.2])(n1:xb≠mb)(n2:ub≠mb)(n3:lb≠mb)
 (h:∀(u150 u151 u152 u153 u154 u155 u156 u157 u158:Value)(W:World)(_:Hid (VMC W vb mb n (fun x=>if x=p then q else val x) (C+1)))(_:Hid (Kp [mb] w W)),Q .normal ⟨#[c0,c1,c2,c3,c4,c5,c6,c7,c8,c9,.pointer (some ⟨vb,0,none⟩),bx,bz,bA,bB,bC,bD,bE,bF,bG,bH,bI,.pointer (some ⟨xb,0,none⟩),bJ,bK,.int .i64 (i:Int),.pointer (some ⟨lb,0,none⟩),bL,bM,bN,bO,bP,bQ,bR,bS,bT,bU,bW,bX,bY,bZ,b0,b1,b2,b3,b4,b5,b6,b7,b8,b9,cb,cd,cf,cg,ch,ci,cj,ck,cm,cn,cq,cr,ct,cx,cy,cz,cA,cB,cC,cD,cE,cF,cG,cH,cI,cJ,cK,cL,cM,cN,cP,cR,cS,cT,cU,cV,cW,cX,cY,cZ,da,db,dc,dd,de,dg,dh,di,dj,ae,af,ag,ah,ai,aj,ak,al,am,an,ao,ap,aq,ar,au,av,aw,ax,ay,az,aA,aB,aC,aD,aE,aF,aG,aH,aI,aJ,aK,aL,aM,aN,aO,aP,aQ,aR,aS,aT,aU,aV,aW,aX,aY,aZ,a0,a1,a2,a3,u150,u151,u152,u153,u154,u155,u156,u157,u158,a4,a5,a6,a7,a8,a9,ba,bb,bc,bd,be,bf,bg,bh,bi,bj,bk,bm,bn],[]⟩ W):
 Code.wp prog (efR 40) Q ⟨#[c0,c1,c2,c3,c4,c5,c6,c7,c8,c9,.pointer (some ⟨vb,0,none⟩),bx,bz,bA,bB,bC,bD,bE,bF,bG,bH,bI,.pointer (some ⟨xb,0,none⟩),bJ,bK,.int .i64 (i:Int),.pointer (some ⟨lb,0,none⟩),bL,bM,bN,bO,bP,bQ,bR,bS,bT,bU,bW,bX,bY,bZ,b0,b1,b2,b3,b4,b5,b6,b7,b8,b9,cb,cd,cf,cg,ch,ci,cj,ck,cm,cn,cq,cr,ct,cx,cy,cz,cA,cB,cC,cD,cE,cF,cG,cH,cI,cJ,cK,cL,cM,cN,cP,cR,cS,cT,cU,cV,cW,cX,cY,cZ,da,db,dc,dd,de,dg,dh,di,dj,ae,af,ag,ah,ai,aj,ak,al,am,an,ao,ap,aq,ar,au,av,aw,ax,ay,az,aA,aB,aC,aD,aE,aF,aG,aH,aI,aJ,aK,aL,aM,aN,aO,aP,aQ,aR,aS,aT,aU,aV,aW,aX,aY,aZ,a0,a1,a2,a3,bo,bp,bq,br,bs,bt,bu,bv,bw,a4,a5,a6,a7,a8,a9,ba,bb,bc,bd,be,bf,bg,bh,bi,bj,bk,bm,bn],[]⟩ w:=by
 conv=>arg 2;whnf
 conv=>arg 4;zeta
 replace h:=zh h;have dm:Hid (w.drew.cell? ⟨vb,0,none⟩=some (.map (some mb))/\w.drew.cell? ⟨xb,0,none⟩=some (.slice (some ⟨ub,uo,none⟩) m cu)/\w.drew.cell? ⟨ub,uo+i,none⟩=some (.int .i64 (p:Int))/\w.drew.cell? ⟨lb,0,none⟩=some (.bool (rq q).1)/\w.drew.cell? ⟨lb,1,none⟩=some (.string (rq q).2.1)/\w.drew.cell? ⟨lb,2,none⟩=some (.string (rq q).2.2)):=⟨hV.x.c0,hx,hu,hl.c0,hl.c1,hl.c2⟩;have j0:(0:Int)<=(i:Int):=by omega
 have j1:(i:Int)<(m:Int):=by omega
 obtain⟨W3,dr,ad,hg⟩:=Oo (w:=w.drew) (hV.below (zI _ w).drew) hC hp q;have ab:Hid (Kp [mb] w W3):=((Kp.refl [mb] w).drew).grown hg (fun b e=>.inl (by cases e;simp));have dq:Hid (W3.cell? ⟨vb,0,none⟩=some (.map (some mb))/\W3.cell? ⟨xb,0,none⟩=some (.slice (some ⟨ub,uo,none⟩) m cu)/\W3.cell? ⟨ub,uo+i,none⟩=some (.int .i64 (p:Int))/\W3.cell? ⟨lb,0,none⟩=some (.bool (rq q).1)/\W3.cell? ⟨lb,1,none⟩=some (.string (rq q).2.1)/\W3.cell? ⟨lb,2,none⟩=some (.string (rq q).2.2)):=⟨ad.x.c0,(zT (a:=⟨xb,0,none⟩) (ab.o.block xb dl (by simpa using n1))).trans hx,(zT (a:=⟨ub,uo+i,none⟩) (ab.o.block ub dk (by simpa using n2))).trans hu,(hl.kp ab.o (by simpa using n3)).c0,(hl.kp ab.o (by simpa using n3)).c1,(hl.kp ab.o (by simpa using n3)).c2⟩;have dt:xb<w.drew.heap.size:=dl;have ul1:ub<w.drew.heap.size:=dk;have ds:lb<w.drew.heap.size:=hl.lt;replace hV:=zh hV;replace hl:=zh hl;replace ad:=zh ad;replace hx:=zh hx;replace hu:=zh hu;clear hg;refine yx ?_;refine yq (S:=fun W=>W.cell? ⟨vb,0,none⟩=some (.map (some mb))/\W.cell? ⟨xb,0,none⟩=some (.slice (some ⟨ub,uo,none⟩) m cu)/\W.cell? ⟨ub,uo+i,none⟩=some (.int .i64 (p:Int))/\W.cell? ⟨lb,0,none⟩=some (.bool (rq q).1)/\W.cell? ⟨lb,1,none⟩=some (.string (rq q).2.1)/\W.cell? ⟨lb,2,none⟩=some (.string (rq q).2.2)) (by kernel_rfl) (dm.o) (fun aa=>?_);replace aa:=zh aa;refine tkgH (v:=?_) 0 rfl (aa.o) (Or.inl ⟨by rfl,?_⟩) ?_;rotate_left
 . (intro w d;obtain⟨q1,q2,q3,q4,q5,q6⟩:=d;go_simp<;>with_reducible rfl)
 try simp only[Act.put,zA]
 refine tkgH (v:=?_) 1 rfl (aa.o) (Or.inl ⟨by rfl,?_⟩) ?_;rotate_left
 . (intro w d;obtain⟨q1,q2,q3,q4,q5,q6⟩:=d;go_simp<;>with_reducible rfl)
 try simp only[Act.put]
 refine tkgH (v:=?_) 2 rfl (aa.o) (Or.inl ⟨by rfl,?_⟩) ?_;rotate_left
 . (intro w d;obtain⟨q1,q2,q3,q4,q5,q6⟩:=d;go_simp<;>with_reducible rfl)
 try simp only[Act.put]
 refine tkgH (v:=?_) 3 rfl (aa.o) (Or.inl ⟨by rfl,?_⟩) ?_;rotate_left
 . (intro w d;obtain⟨q1,q2,q3,q4,q5,q6⟩:=d;go_simp<;>with_reducible rfl)
 try simp only[Act.put]
 refine tkgH (v:=?_) 4 rfl (aa.o) (Or.inl ⟨by rfl,?_⟩) ?_;rotate_left
 . (intro w d;obtain⟨q1,q2,q3,q4,q5,q6⟩:=d;go_simp<;>with_reducible rfl)
 try simp only[Act.put]
 refine tkgH (v:=?_) 5 rfl (aa.o) (Or.inl ⟨by rfl,?_⟩) ?_;rotate_left
 . (intro w d;obtain⟨q1,q2,q3,q4,q5,q6⟩:=d;go_simp<;>with_reducible rfl)
 try simp only[Act.put]
 refine tkgH (v:=?_) 6 rfl (aa.o) (Or.inl ⟨by rfl,?_⟩) ?_;rotate_left
 . (intro w d;obtain⟨q1,q2,q3,q4,q5,q6⟩:=d;go_simp<;>with_reducible rfl)
 try simp only[Act.put]
 refine tkgH (v:=?_) 7 rfl (aa.o) (Or.inl ⟨by rfl,?_⟩) ?_;rotate_left
 . (intro w d;obtain⟨q1,q2,q3,q4,q5,q6⟩:=d;go_simp<;>with_reducible rfl)
 try simp only[Act.put]
 refine tkgH (v:=?_) 8 rfl (aa.o) (Or.inl ⟨by rfl,?_⟩) ?_;rotate_left
 . (intro w d;obtain⟨q1,q2,q3,q4,q5,q6⟩:=d;go_simp<;>with_reducible rfl)
 try simp only[Act.put]
 refine zU (rs:=[9]) (by kernel_rfl) (by simp) ?_;refine zK (o:=_) rfl (fun K hK=>?_) ?_
 .go_simp;refine hK.o _ _ (dq.o) (fun _=>?_);clear hK K
  try simp only[Act.put,zA,zF,zE]
  refine yz (by kernel_rfl) ?_ _;refine yX ?_;exact h.o _ _ _ _ _ _ _ _ _ _ ad ab
 exact zR
end Sh
end
section
namespace Ci
def DR(E:List (Nat×Nat)):Nat->Nat->Nat->Prop
 |0,i,j=>i=j\/(i,j)∈E
 |k+1,i,j=>DR E k i j\/(DR E k i k/\DR E k k j)
section
variable {E:List (Nat×Nat)} {n i j k m:Nat}
theorem J7:∀k,DR E k i i
 |0=>.inl rfl
 |k+1=>.inl (J7 k)
theorem Oq:DR E (k+1) i k<->DR E k i k:=⟨fun h=>h.elim id fun h=>h.1,.inl⟩
theorem LEq:DR E (k+1) k j<->DR E k k j:=⟨fun h=>h.elim id fun h=>h.2,.inl⟩
theorem Nr:∀k m i j,m<k->DR E k i m->DR E k m j->DR E k i j:=by
 intro k
 induction k with
 |zero=>intro m i j h;omega
 |succ k ih=>
  intro m i j hm h1 h2
  by_cases e:m=k
  .subst e;exact .inr ⟨Oq.1 h1,LEq.1 h2⟩
  have d:m<k:=by omega
  rcases h1 with h1|⟨h1,h3⟩
  .rcases h2 with h2|⟨h2,h4⟩
   .exact .inl (ih m i j d h1 h2)
   exact .inr ⟨ih m i k d h1 h2,h4⟩
  rcases h2 with h2|⟨_,h4⟩
  .exact .inr ⟨h1,ih m k j d h3 h2⟩
  exact .inr ⟨h1,h4⟩
theorem Ns:∀k i j,DR E k i j->Reach E i j:=by
 intro k
 induction k with
 |zero=>
  rintro i j (rfl|h)
  .exact .refl _
  exact .one h
 |succ k ih=>
  rintro i j (h|⟨h1,h2⟩)
  .exact ih i j h
  exact(ih i k h1).trans (ih k j h2)
theorem J8(h:DR E 0 i j):∀k,DR E k i j
 |0=>h
 |k+1=>.inl (J8 h k)
theorem Sz(hE:InN n E):DR E n i j<->Reach E i j:=by
 constructor
 .exact Ns n i j
 intro h;refine h.closed (C:=fun x=>DR E n i x) (J7 n) fun a b ha e=>?_;exact Nr n a i b (hE _ e).1 ha (J8 (.inr e) n)
def Tab(E:List (Nat×Nat))(n k i j:Nat)(T:Nat->Nat->Prop):Prop :=
 ∀a b,a<n->b<n->(T a b<->if a<i\/(a=i/\b<j) then DR E (k+1) a b else DR E k a b)
theorem Tab.row{T:Nat->Nat->Prop}(h:Tab E n k i j T)(hk:k<n){a:Nat}(ha:a<n):T a k<->DR E k a k:=by
 rw[h a k ha hk]
 split
 .exact Oq
 exact wB
theorem Tab.col{T:Nat->Nat->Prop}(h:Tab E n k i j T)(hk:k<n){b:Nat}(hb:b<n):T k b<->DR E k k b:=by
 rw[h k b hk hb]
 split
 .exact LEq
 exact wB
theorem Tab.step{T T':Nat->Nat->Prop}(h:Tab E n k i j T)(hk:k<n)(hi:i<n)(hj:j<n)(hT:∀a b,T' a b<->T a b\/(a=i/\b=j/\T i k/\T k j)):Tab E n k i (j+1) T':=by
 intro a b ha hb;rw[hT]
 by_cases e:a=i/\b=j
 .obtain⟨rfl,rfl⟩:=e;rw[zD (by omega),h.row hk ha,h.col hk hb,h a b ha hb,zC (by omega)];exact⟨fun c=>c.elim .inl fun c=>.inr c.2.2,fun c=>c.elim .inl fun c=>.inr ⟨rfl,rfl,c⟩⟩
 rw[h a b ha hb];have e2:¬(a=i/\b=j/\T i k/\T k j):=fun c=>e ⟨c.1,c.2.1⟩
 by_cases c:a<i\/(a=i/\b<j)
 .rw[zD c,zD (by omega)];exact⟨fun x=>x.elim id fun y=>absurd y e2,.inl⟩
 rw[zC c,zC (by omega)];exact⟨fun x=>x.elim id fun y=>absurd y e2,.inl⟩
theorem Tab.next{T:Nat->Nat->Prop}(h:Tab E n k i n T):Tab E n k (i+1) 0 T:=by
 intro a b ha hb;rw[h a b ha hb]
 by_cases c:a<i\/(a=i/\b<n)
 .rw[zD c,zD (by omega)]
 rw[zC c,zC (by omega)]
theorem Tab.round{T:Nat->Nat->Prop}(h:Tab E n k n 0 T):Tab E n (k+1) 0 0 T:=by
 intro a b ha hb;rw[h a b ha hb,zD (.inl ha),zC (by omega)]
theorem Tab.end{T:Nat->Nat->Prop}(h:Tab E n n 0 0 T)(hE:InN n E){a b:Nat}(ha:a<n)(hb:b<n):T a b<->Reach E a b:=by
 rw[h a b ha hb,zC (by omega)];exact Sz hE
end
end Ci
end
section
namespace Ci
open Classical
section
variable {E:List (Nat×Nat)} {n p q x:Nat}
def LF(E:List (Nat×Nat)):List (Nat×Nat):=E.map fun e=>(e.2,e.1)
theorem EL:(p,q)∈LF E<->(q,p)∈E:=by
 unfold LF;rw[vX];constructor
 .rintro⟨⟨a,b⟩,h,e⟩;simp only[Prod.mk.injEq]at e;rw[<-e.1,<-e.2];exact h
 exact fun h=>⟨(q,p),h,rfl⟩
theorem U6(h:InN n E):InN n (LF E):=fun x hx=>by
 obtain⟨a,b⟩:=x;have:=h _ (EL.1 hx);exact⟨this.2,this.1⟩
theorem Nu(h:Reach E p q):Reach (LF E) q p :=
 h.closed (C:=fun x=>Reach (LF E) x p) (.refl p) fun _ _ ha e=>(Reach.one (EL.2 e)).trans ha
theorem J9:Reach (LF E) p q<->Reach E q p:=⟨fun h=>h.closed (C:=fun x=>Reach E x p) (.refl p) fun _ _ ha e=>(Reach.one (EL.1 e)).trans ha,Nu⟩
def PL(E:List (Nat×Nat))(p q x:Nat):Prop:=fst E x<p\/(Mut E p x/\x<q)
noncomputable def lsO(E:List (Nat×Nat))(n p x:Nat):List Nat:=if x<p/\fst E x=x then CL n E x else []
noncomputable def part(E:List (Nat×Nat))(p q:Nat):List Nat:=(List.range q).filter fun y=>decide (Mut E p y)
noncomputable def lsQ(E:List (Nat×Nat))(n p q x:Nat):List Nat:=if x=p then part E p q else lsO E n p x
noncomputable def cO(E:List (Nat×Nat))(p:Nat):Nat:=((List.range p).filter fun y=>decide (fst E y=y)).length
noncomputable def cQ(E:List (Nat×Nat))(p q:Nat):Nat:=if part E p q=[] then cO E p else cO E p+1
theorem Ot(hp:p<n):CL n E p≠[]:=fun h=>by
 have:=CF.2 ⟨hp,Mut.refl (E:=E) p⟩;rw[h]at this
 cases this
theorem JB:part E p 0=[]:=rfl
theorem Ff:part E p (q+1)=if Mut E p q then part E p q++[q] else part E p q:=by
 unfold part;rw[xi,yL,zk]
 by_cases h:Mut E p q
 .rw[zD h,zD (zG h)];rfl
 rw[zC h,zC (by rw[zH h];simp)];simp
theorem LG:part E p n=CL n E p:=rfl
theorem DS:lsQ E n p 0 x=lsO E n p x:=by
 unfold lsQ
 by_cases e:x=p
 .rw[zD e,JB];unfold lsO;rw[zC (by omega)]
 rw[zC e]
theorem S1(h:¬Mut E p q):lsQ E n p (q+1) x=lsQ E n p q x:=by
 unfold lsQ;rw[Ff,zC h]
theorem S8(h:Mut E p q):lsQ E n p (q+1) x=if x=p then lsQ E n p q x++[q] else lsQ E n p q x:=by
 unfold lsQ;rw[Ff,zD h]
 by_cases e:x=p
 .rw[zD e,zD e,zD e]
 rw[zC e,zC e,zC e]
theorem Gg:cQ E p 0=cO E p:=zD rfl
theorem U7(h:¬Mut E p q):cQ E p (q+1)=cQ E p q:=by unfold cQ;rw[Ff,zC h]
theorem U8(h:Mut E p q):cQ E p (q+1)=if lsQ E n p q p=[] then cQ E p q+1 else cQ E p q:=by
 unfold cQ lsQ;rw[Ff,zD h,zC (by simp),zD rfl]
 by_cases e:part E p q=[]
 .rw[zD e,zD e]
 rw[zC e,zC e]
theorem Kz(h:¬Mut E p q):PL E p (q+1) x<->PL E p q x:=by
 unfold PL;constructor
 .rintro(a|⟨a,b⟩)
  .exact .inl a
  by_cases e:x=q
  .subst e;exact absurd a h
  exact .inr ⟨a,by omega⟩
 rintro(a|⟨a,b⟩)
 .exact .inl a
 exact .inr ⟨a,by omega⟩
theorem Ho(h:Mut E p q):PL E p (q+1) x<->PL E p q x\/x=q:=by
 unfold PL;constructor
 .rintro(a|⟨a,b⟩)
  .exact .inl (.inl a)
  by_cases e:x=q
  .exact .inr e
  exact .inl (.inr ⟨a,by omega⟩)
 rintro((a|⟨a,b⟩)|e)
 .exact .inl a
 .exact .inr ⟨a,by omega⟩
 subst e;exact .inr ⟨h,by omega⟩
theorem Ep:PL E p 0 x<->fst E x<p:=⟨fun h=>h.elim id fun h=>absurd h.2 (yB _),.inl⟩
theorem S9:PL E p 0 p<->fst E p≠p:=by
 have:=JS (Mut.refl (E:=E) p);rw[Ep];omega
theorem Nv(h:fst E p≠p):PL E (p+1) 0 x<->PL E p 0 x:=by
 rw[Ep,Ep];constructor
 .intro h1
  by_cases e:fst E x=p
  .exact absurd (by rw[<-e,FK]) h
  omega
 omega
theorem K0(h:fst E p=p)(hx:x<n):PL E (p+1) 0 x<->PL E p n x:=by
 rw[Ep];unfold PL;constructor
 .intro h1
  by_cases e:fst E x=p
  .exact .inr ⟨Hj.1 (by rw[e,h]),hx⟩
  exact .inl (by omega)
 rintro(a|⟨a,_⟩)
 .omega
 have:=Fx a;omega
theorem U9(h:fst E p≠p):lsO E n (p+1) x=lsO E n p x:=by
 unfold lsO
 by_cases e:x<p/\fst E x=x
 .rw[zD e,zD ⟨by omega,e.2⟩]
 rw[zC e,zC];rintro⟨a,b⟩
 by_cases c:x=p
 .subst c;exact h b
 exact e ⟨by omega,b⟩
theorem SA(h:fst E p=p):lsO E n (p+1) x=lsQ E n p n x:=by
 unfold lsO lsQ
 by_cases e:x=p
 .subst e;rw[zD rfl,zD ⟨by omega,h⟩,LG]
 rw[zC e];unfold lsO
 by_cases c:x<p/\fst E x=x
 .rw[zD c,zD ⟨by omega,c.2⟩]
 rw[zC c,zC fun d=>c ⟨by omega,d.2⟩]
theorem Ou:cO E (p+1)=if fst E p=p then cO E p+1 else cO E p:=by
 unfold cO;rw[xi,yL,zV,zk]
 by_cases h:fst E p=p
 .rw[zD h,zD (zG h)];rfl
 rw[zC h,zC (by rw[zH h];simp)];simp
theorem UA(h:fst E p=p)(hp:p<n):cQ E p n=cO E (p+1):=by
 rw[Ou,zD h];unfold cQ;rw[LG,zC (Ot hp)]
theorem Wb:cO E n=(leasts n E).length:=rfl
theorem Xi:cO E p<=p:=by
 have:=zr (fun y=>decide (fst E y=y)) (List.range p);rw[yZ]at this;exact this
theorem Xj:cQ E p q<=p+1:=by
 unfold cQ;have:=Xi (E:=E) (p:=p)
 split<;>omega
theorem Ov(hx:x<n):lsO E n n x=if x∈leasts n E then CL n E x else []:=by
 unfold lsO
 by_cases h:fst E x=x
 .rw[zD ⟨hx,h⟩,zD (Bz.2 ⟨hx,h⟩)]
 rw[zC fun c=>h c.2,zC fun c=>h (Bz.1 c).2]
theorem Wc(hx:x<n):PL E n 0 x:=Ep.2 (Gq hx)
end
end Ci
end
section
open Go.RowKit Go.Shelf
namespace Ci
open Nt
def SB(W:World)(A:Option Addr)(l:List (Option Addr×Nat×List Int)):Prop :=
 0<l.length->∃b off,A=some ⟨b,off,none⟩/\b<W.heap.size/\∀j (h:j<l.length),W.cell? ⟨b,off+j,none⟩=some (.slice l[j].1 l[j].2.2.length l[j].2.1)/\InInt W l[j].1 l[j].2.2/\l[j].2.2.length<=140737488355328
def baR(l:List (Option Addr×Nat×List Int)):List (List Int):=l.map fun x=>x.2.2
end Ci
end
end Go.Proofs.YtefmpngjjmddjaaGreatDoor

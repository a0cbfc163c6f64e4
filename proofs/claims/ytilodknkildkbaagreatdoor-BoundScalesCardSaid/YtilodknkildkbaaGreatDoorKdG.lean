/- Texts that the proof needs: ShaReg22, ShaTake, ShaSolve, ShaRowP, ShaBuild, ShaSlv, BndSum, BndP, BndVal, BndLeast. -/
import Derived.Deep.RegionHeld3
import Derived.Test.YtilodknkildkbaaGreatDoorKdA
import Derived.Test.YtilodknkildkbaaGreatDoorKdB
import Derived.Test.YtilodknkildkbaaGreatDoorKdC
import Derived.Test.YtilodknkildkbaaGreatDoorKdD
import Derived.Test.YtilodknkildkbaaGreatDoorKdE
import Derived.Test.YtilodknkildkbaaGreatDoorKdF
set_option maxHeartbeats 32000000
set_option maxRecDepth 1000000
namespace Go.Proofs.YtilodknkildkbaaGreatDoor
theorem tkdG{P:Program}{md:Region.Mode}{ops:Array Oper}{Q:Exit->Act->World->Prop}{S:World->Prop}{oi:Oper}{v:Value}{fuel:Nat}{listed:Array Bool}{a:Act}{w:World}(i:Nat)(hi:ops[i]?=some oi)(hS:S w)(hy:YieldsIf P ops S oi v a)(h:wpAnyH P md ops Q S fuel (listed.setIfInBounds i true) (a.put oi.dst v) w)(hs:Region.noSelect ops=true:=by kernel_rfl)(hf:Region.free md ops listed i=true:=by kernel_rfl)(hr:(Region.ready md ops listed).contains i=true:=by kernel_rfl)(hQ:∀c a w,Q (.panic c) (a.put oi.dst v) w->Q (.panic c) a w:=by exact fun _ _ _ h=>h):wpAnyH P md ops Q S (fuel+1) listed a w:=wpAnyH_take hi hs hf hr hQ hy hS h
section
open Go.RowKit Go.Shelf
namespace Sh
open Nt Ci
theorem JQ {W:World} {b:Nat} {v:Value} (h:W.cell? ⟨b,0,none⟩=some v):∀j u,[v][j]? = some u->W.cell? ((⟨b,0,none⟩:Addr).add j)=some u:=by
 intro j u hj
 match j,hj with
 | 0,hj=>simp only[List.getElem?_cons_zero,Option.some.injEq]at hj;subst hj;simpa [Addr.add] using h
 | j+1,hj=>simp at hj
theorem RO {W:World} {b:Nat} {x y z:Value} (h0:W.cell? ⟨b,0,none⟩=some x) (h1:W.cell? ⟨b,1,none⟩=some y) (h2:W.cell? ⟨b,2,none⟩=some z):∀j u,[x,y,z][j]? = some u->W.cell? ((⟨b,0,none⟩:Addr).add j)=some u:=by
 intro j u hj
 match j,hj with
 | 0,hj=>simp at hj;subst hj;simpa [Addr.add] using h0
 | 1,hj=>simp at hj;subst hj;simpa [Addr.add] using h1
 | 2,hj=>simp at hj;subst hj;simpa [Addr.add] using h2
 | j+3,hj=>simp at hj
theorem Pm {P:Program} {md:Region.Mode} {ops:Array Oper} {Q:Exit->Act->World->Prop} {S:World->Prop} {n:Nat} {l:Array Bool} {a:Act} {w:World}
 (h:∀F:Nat->Array Bool->Act->World->Prop,F=wpAnyH P md ops Q S->F n l a w):wpAnyH P md ops Q S n l a w:=h _ rfl
theorem Vn {F:Nat->Array Bool->Act->World->Prop} {n n':Nat} {l l':Array Bool} {a a':Act} {w:World} (hn:n'=n) (hl:l'=l) (ha:a'=a) (h:F n l a w):F n' l' a' w:=by rw[hn,hl,ha];exact h
theorem Eh {W:World} {base n m:Nat} {e:TypeId} {u:Value} {xs:List Value} (h:W.ownsRow base e m u n xs):∃A cap,u=.slice A n cap:=by
 rcases h.2 with⟨rfl,h0⟩ | ⟨g,cap,cur,rfl,_⟩
 · exact⟨none,0,by rw[h0]⟩
 · exact⟨_,cap,rfl⟩
structure G22 (xb gb:Nat) (uv:Value) (Aa Ab:Option Addr) (i ca cb:Nat) (x:Raw) (w W:World):Prop where
 k:Kp (xb::((Value.slice Aa i ca).ownBlock.toList++(Value.slice Ab i cb).ownBlock.toList)) w W
 y:Bk W xb 75 [uv,.slice Aa i ca,.slice Ab i cb]
 b:Bk W gb 40 [.bool x.1,.string x.2.1,.string x.2.2]
theorem G22.alloc {xb gb:Nat} {uv:Value} {Aa Ab:Option Addr} {i ca cb:Nat} {x:Raw} {w W:World} (h:G22 xb gb uv Aa Ab i ca cb x w W) (o:Obj):G22 xb gb uv Aa Ab i ca cb x w (W.alloc o):=⟨h.k.alloc o,h.y.alloc o,h.b.alloc o⟩
theorem Aj {W:World} {b:Nat} {t:TypeId} {v0 v1 v2:Value} (h:Bk W b t [v0,v1,v2]):W.cell? ⟨b,0,none⟩=some v0/\W.cell? ⟨b,1,none⟩=some v1/\W.cell? ⟨b,2,none⟩=some v2:=⟨h.c0,h.c1,h.c2⟩
theorem Ig {x:Nat} {w W W':World} {L:List Nat} {o:Option Nat} (h:Kp (x::L) w W) (hg:W.grownBy W' o) (hl:∀b,o=some b->b∈L∨w.heap.size<=b):Kp (x::L) w W' :=
 h.grown hg fun b e=>(hl b e).imp (List.mem_cons_of_mem _) id
theorem Wx {c1 c2 c3 c4 c5 c6 c7 c8 aN aO aP ad aQ aR aS aT aU aV aW aX aY aZ a0 a1 a2 a3 a4 a5 a6 a7 a8 a9 ba bb bd be bf bg bh bi bj bk bm bn bo bp bq br bs bt bu bv bw bx bz bA bB bC bD bE bF bG bH bI bJ bK bL bM bN bO bP bQ bR bS bT bU bW bX bY bZ b0 b1 b2 b3 aF ce cf a89 cg ch ay ci az an cj ck cl av b6 am ag aJ aK aL aM:Value} {Q:Exit->Act->World->Prop} (xb gb rb m i ca cb B1:Nat) (Aa Ab:Option Addr) (uv:Value) (aj cbs:List Value) (x:Raw) (w:World) (hi:i<=1000) (hx:Bk w xb 75 [uv,.slice Aa i ca,.slice Ab i cb]) (hb:Bk w gb 40 [.bool x.1,.string x.2.1,.string x.2.2]) (ngx:gb≠xb) (aC:B1<=w.heap.size) (b9:xb<B1) (oa:w.ownsRow B1 27 1 (Value.slice Aa i ca) i aj) (ob:w.ownsRow B1 40 3 (Value.slice Ab i cb) i cbs) (ap:∀b,(Value.slice Aa i ca).ownBlock=some b->(Value.slice Ab i cb).ownBlock≠some b) (nga:(Value.slice Aa i ca).ownBlock≠some gb) (ngb:(Value.slice Ab i cb).ownBlock≠some gb)
 (h:∀(u87 u88 u89 u90 u91 u92 u93 u94 u95 u96 u97 u98 u99 u100 u101 u102 u103 u104 u105 u106:Value) (Aa2 Ab2:Option Addr) (af ak:Nat) (W:World) (_:Hid (Kp (xb::((Value.slice Aa i ca).ownBlock.toList++(Value.slice Ab i cb).ownBlock.toList)) w W)) (_:Hid (Bk W xb 75 [uv,.slice Aa2 (i+1) af,.slice Ab2 (i+1) ak])) (_:Hid (W.ownsRow B1 27 1 (Value.slice Aa2 (i+1) af) (i+1) (aj++[.slice (some ⟨rb,0,none⟩) m m]))) (_:Hid (W.ownsRow B1 40 3 (Value.slice Ab2 (i+1) ak) (i+1) (cbs++[.bool x.1,.string x.2.1,.string x.2.2]))) (_:Hid (∀b,(Value.slice Aa2 (i+1) af).ownBlock=some b->(Value.slice Ab2 (i+1) ak).ownBlock≠some b)) (_:Hid ((Value.slice Aa2 (i+1) af).ownBlock=(Value.slice Aa i ca).ownBlock∨∃b,(Value.slice Aa2 (i+1) af).ownBlock=some b/\w.heap.size<=b)) (_:Hid ((Value.slice Ab2 (i+1) ak).ownBlock=(Value.slice Ab i cb).ownBlock∨∃b,(Value.slice Ab2 (i+1) ak).ownBlock=some b/\w.heap.size<=b)),Q .normal ⟨#[.pointer (some ⟨xb,0,none⟩),c1,c2,c3,c4,c5,c6,c7,c8,.slice (some ⟨rb,0,none⟩) m m,aN,.pointer (some ⟨gb,0,none⟩),aO,aP,ad,aQ,aR,aS,aT,aU,aV,aW,aX,aY,aZ,a0,a1,a2,a3,a4,a5,a6,a7,a8,a9,ba,bb,bd,be,bf,bg,bh,bi,bj,bk,bm,bn,bo,bp,bq,br,bs,bt,bu,bv,bw,bx,bz,bA,bB,bC,bD,bE,bF,bG,bH,bI,bJ,bK,bL,bM,bN,bO,bP,bQ,bR,bS,bT,bU,bW,bX,bY,bZ,b0,b1,b2,b3,u87,u88,u89,u90,u91,u92,u93,u94,u95,u96,u97,u98,u99,u100,u101,u102,u103,u104,u105,u106,aF],[]⟩ W) :
 Code.wp Tryz.prog (bdR 22) Q ⟨#[.pointer (some ⟨xb,0,none⟩),c1,c2,c3,c4,c5,c6,c7,c8,.slice (some ⟨rb,0,none⟩) m m,aN,.pointer (some ⟨gb,0,none⟩),aO,aP,ad,aQ,aR,aS,aT,aU,aV,aW,aX,aY,aZ,a0,a1,a2,a3,a4,a5,a6,a7,a8,a9,ba,bb,bd,be,bf,bg,bh,bi,bj,bk,bm,bn,bo,bp,bq,br,bs,bt,bu,bv,bw,bx,bz,bA,bB,bC,bD,bE,bF,bG,bH,bI,bJ,bK,bL,bM,bN,bO,bP,bQ,bR,bS,bT,bU,bW,bX,bY,bZ,b0,b1,b2,b3,ce,cf,a89,cg,ch,ay,ci,az,an,cj,ck,cl,av,b6,am,ag,aJ,aK,aL,aM,aF],[]⟩ w:=by
 conv=>arg 2;whnf
 conv=>arg 4;zeta
 replace h:=zh h;have co:Hid (Kp (xb::((Value.slice Aa i ca).ownBlock.toList++(Value.slice Ab i cb).ownBlock.toList)) w w.drew):=(Kp.refl _ w).drew;have ct:Hid (Bk w.drew xb 75 [uv,.slice Aa i ca,.slice Ab i cb]):=hx.below (Below.refl _ w).drew;have b7:Hid (Bk w.drew gb 40 [.bool x.1,.string x.2.1,.string x.2.2]):=hb.below (Below.refl _ w).drew;have cw:=zh (AR oa (Below.refl _ w).drew);have cy:=zh (AR ob (Below.refl _ w).drew);have b8:Hid (∀b,(Value.slice Aa i ca).ownBlock=some b->B1<=b/\b<w.heap.size):=fun b e=>oa.lt b e;have cE:Hid (∀b,(Value.slice Ab i cb).ownBlock=some b->B1<=b/\b<w.heap.size):=fun b e=>ob.lt b e;have nxa:Hid ((Value.slice Aa i ca).ownBlock≠some xb):=fun e=>by have:=(oa.lt xb e).1;omega
 have nxb:Hid ((Value.slice Ab i cb).ownBlock≠some xb):=fun e=>by have:=(ob.lt xb e).1;omega
 have gl:=hb.lt;have xl:=hx.lt;replace ap:=zh ap;clear oa ob hb hx;replace aC:=zh aC;replace nga:=zh nga;replace ngb:=zh ngb;replace ngx:=zh ngx;replace b9:=zh b9;replace gl:=zh gl;replace xl:=zh xl;have aI:Hid (∀b,(Value.slice Aa i ca).ownBlock=some b->b∈((Value.slice Aa i ca).ownBlock.toList++(Value.slice Ab i cb).ownBlock.toList)∨w.heap.size<=b):=fun b e=>.inl (by rw[e];simp);have cr:Hid (∀b,(Value.slice Ab i cb).ownBlock=some b->b∈((Value.slice Aa i ca).ownBlock.toList++(Value.slice Ab i cb).ownBlock.toList)∨w.heap.size<=b):=fun b e=>.inl (by rw[e];simp);obtain⟨i0,aE,aH⟩:=Option.map_eq_some_iff.1 Rt;simp only[Prod.mk.injEq]at aH;obtain⟨z0i0,z1i0,z2i0⟩:=aH;replace aE:=zh aE;replace z0i0:=zh z0i0;replace z1i0:=zh z1i0;replace z2i0:=zh z2i0;obtain⟨i3,b4,aH⟩:=Option.map_eq_some_iff.1 infoQ;simp only[Prod.mk.injEq]at aH;obtain⟨z0i3,z1i3,z2i3⟩:=aH;replace b4:=zh b4;replace z0i3:=zh z0i3;replace z1i3:=zh z1i3;replace z2i3:=zh z2i3;refine wp_region_noPanic ?_;refine wp_region_held_drew (S:=fun W=>W.cell? ⟨gb,0,none⟩=some (.bool x.1)/\W.cell? ⟨gb,1,none⟩=some (.string x.2.1)/\W.cell? ⟨gb,2,none⟩=some (.string x.2.2)) (by kernel_rfl) (Aj b7.out) (fun au=>?_);replace au:=zh au;refine tkdG (v:=?_) 0 rfl (au.out) (Or.inl ⟨by rfl,?_⟩) ?_;rotate_left
 · (intro w ai;obtain⟨q1,q2,q3⟩:=ai;go_simp<;>with_reducible rfl)
 try simp only[Act.put,List.setIfInBounds_toArray]
 refine tkdG (v:=?_) 1 rfl (au.out) (Or.inl ⟨by rfl,?_⟩) ?_;rotate_left
 · (intro w ai;obtain⟨q1,q2,q3⟩:=ai;go_simp<;>with_reducible rfl)
 try simp only[Act.put]
 refine tkdG (v:=?_) 2 rfl (au.out) (Or.inl ⟨by rfl,?_⟩) ?_;rotate_left
 · (intro w ai;obtain⟨q1,q2,q3⟩:=ai;go_simp<;>with_reducible rfl)
 try simp only[Act.put]
 refine tkdG (v:=?_) 3 rfl (au.out) (Or.inl ⟨by rfl,?_⟩) ?_;rotate_left
 · (intro w ai;obtain⟨q1,q2,q3⟩:=ai;go_simp<;>with_reducible rfl)
 try simp only[Act.put]
 refine tkdG (v:=?_) 4 rfl (au.out) (Or.inl ⟨by rfl,?_⟩) ?_;rotate_left
 · (intro w ai;obtain⟨q1,q2,q3⟩:=ai;go_simp<;>with_reducible rfl)
 try simp only[Act.put]
 refine tkdG (v:=?_) 6 rfl (au.out) (Or.inl ⟨by rfl,?_⟩) ?_;rotate_left
 · (intro w ai;obtain⟨q1,q2,q3⟩:=ai;go_simp<;>with_reducible rfl)
 try simp only[Act.put]
 refine tkdG (v:=?_) 9 rfl (au.out) (Or.inl ⟨by rfl,?_⟩) ?_;rotate_left
 · (intro w ai;obtain⟨q1,q2,q3⟩:=ai;go_simp<;>with_reducible rfl)
 try simp only[Act.put]
 refine tkdG (v:=?_) 10 rfl (au.out) (Or.inl ⟨by rfl,?_⟩) ?_;rotate_left
 · (intro w ai;obtain⟨q1,q2,q3⟩:=ai;go_simp<;>with_reducible rfl)
 try simp only[Act.put]
 refine tkdG (v:=?_) 11 rfl (au.out) (Or.inl ⟨by rfl,?_⟩) ?_;rotate_left
 · (intro w ai;obtain⟨q1,q2,q3⟩:=ai;go_simp<;>with_reducible rfl)
 try simp only[Act.put]
 refine tkdG (v:=?_) 13 rfl (au.out) (Or.inl ⟨by rfl,?_⟩) ?_;rotate_left
 · (intro w ai;obtain⟨q1,q2,q3⟩:=ai;go_simp<;>with_reducible rfl)
 try simp only[Act.put]
 clear au;refine Pm (fun F hF=>?_);replace hF:=zh hF;obtain⟨fr,ae⟩:∃f:Value->Value->Value->Value->Value->Value->Act,f=fun cA cB cC cD cc cd=>⟨#[.pointer (some ⟨xb,0,none⟩),c1,c2,c3,c4,c5,c6,c7,c8,.slice (some ⟨rb,0,none⟩) m m,aN,.pointer (some ⟨gb,0,none⟩),aO,aP,ad,aQ,aR,aS,aT,aU,aV,aW,aX,aY,aZ,a0,a1,a2,a3,a4,a5,a6,a7,a8,a9,ba,bb,bd,be,bf,bg,bh,bi,bj,bk,bm,bn,bo,bp,bq,br,bs,bt,bu,bv,bw,bx,bz,bA,bB,bC,bD,bE,bF,bG,bH,bI,bJ,bK,bL,bM,bN,bO,bP,bQ,bR,bS,bT,bU,bW,bX,bY,bZ,b0,b1,b2,b3,.pointer (some ⟨xb,0,none⟩),.pointer (some ⟨xb,0,none⟩),.pointer (some ⟨xb,0,none⟩),.pointer (some ⟨xb,0,none⟩),.pointer (some ⟨xb,1,none⟩),cA,.slice (some ⟨rb,0,none⟩) m m,cB,cC,.pointer (some ⟨xb,0,none⟩),.pointer (some ⟨xb,0,none⟩),.pointer (some ⟨xb,2,none⟩),cD,.agg #[.bool x.1,.string x.2.1,.string x.2.2],cc,cd,aJ,aK,aL,aM,aF],[]⟩:=⟨_,rfl⟩;replace ae:=zh ae;have cn:Hid (G22 xb gb uv Aa Ab i ca cb x w w.drew):=⟨co.out,ct.out,b7.out⟩
 have Lx5x7x8x12x14x15:∀(l7:Nat) (Aa2:Option Addr) (af:Nat) (aa:Nat) (Ab2:Option Addr) (ak:Nat) (W:World),Hid (G22 xb gb uv Aa Ab i ca cb x w W)->Hid (W.ownsRow B1 27 1 (Value.slice Aa2 (i+1) af) (i+1) (aj++[.slice (some ⟨rb,0,none⟩) m m]))->Hid ((Value.slice Aa2 (i+1) af).ownBlock=(Value.slice Aa i ca).ownBlock∨∃b,(Value.slice Aa2 (i+1) af).ownBlock=some b/\w.heap.size<=b)->Hid (W.ownsRow B1 40 3 (Value.slice Ab2 (i+1) ak) (i+1) (cbs++[.bool x.1,.string x.2.1,.string x.2.2]))->Hid ((Value.slice Ab2 (i+1) ak).ownBlock=(Value.slice Ab i cb).ownBlock∨∃b,(Value.slice Ab2 (i+1) ak).ownBlock=some b/\w.heap.size<=b)->Hid (∀b,(Value.slice Aa2 (i+1) af).ownBlock=some b->(Value.slice Ab2 (i+1) ak).ownBlock≠some b)->F 6 #[true,true,true,true,true,true,true,true,true,true,true,true,true,true,true,true,false,false,false,false,false,false] (fr (.slice Aa i ca) (.slice (some ⟨l7,0,none⟩) 1 1) (.slice Aa2 (i+1) af) (.slice Ab i cb) (.slice (some ⟨aa,0,none⟩) 1 1) (.slice Ab2 (i+1) ak)) W:=by
  intro l7 Aa2 af aa Ab2 ak W hg oa na ob nb ap;rw[hF.out,ae.out];dsimp only;refine tkdG (v:=?_) 16 rfl (Aj hg.out.b) (Or.inl ⟨by rfl,?_⟩) ?_;rotate_left
  · (intro w ai;obtain⟨q1,q2,q3⟩:=ai;go_simp<;>with_reducible rfl)
  try simp only[Act.put,List.setIfInBounds_toArray,List.set_cons_zero,List.set_cons_succ]
  refine tkdG (v:=?_) 17 rfl (Aj hg.out.b) (Or.inl ⟨by rfl,?_⟩) ?_;rotate_left
  · (intro w ai;obtain⟨q1,q2,q3⟩:=ai;go_simp<;>with_reducible rfl)
  try simp only[Act.put,List.setIfInBounds_toArray,List.set_cons_zero,List.set_cons_succ]
  have x1:=hg.out.y.c1;have f1:=hg.out.y.frozen 1;have x9:=hg.out.y.lt;refine wpAnyH_ready (rs:=[18]) (by kernel_rfl) (by simp) ?_;refine AllReadyH.cons (o:=_) rfl (fun K hK=>?_) ?_
  · go_simp;have al:Hid (Bk (W.setCell ⟨xb,1,none⟩ (.slice Aa2 (i+1) af)) gb 40 [.bool x.1,.string x.2.1,.string x.2.2]):=hg.out.b.far (p:=⟨xb,1,none⟩) ngx.out _;have ar:Hid (Bk (W.setCell ⟨xb,1,none⟩ (.slice Aa2 (i+1) af)) xb 75 [uv,.slice Aa2 (i+1) af,.slice Ab i cb]):=hg.out.y.set 1 (.slice Aa2 (i+1) af);have ax:Hid (Kp (xb::((Value.slice Aa i ca).ownBlock.toList++(Value.slice Ab i cb).ownBlock.toList)) w (W.setCell ⟨xb,1,none⟩ (.slice Aa2 (i+1) af))):=hg.out.k.set (a:=⟨xb,1,none⟩) _ (.inl (by simp));have nxa2:Hid ((Value.slice Aa2 (i+1) af).ownBlock≠some xb):=fun e=>by rcases na.out with c | ⟨b,c,d⟩;(· exact nxa.out (c▸e));(· rw[c]at e;cases e;have:=xl.out;omega)
    have nxb2:Hid ((Value.slice Ab2 (i+1) ak).ownBlock≠some xb):=fun e=>by rcases nb.out with c | ⟨b,c,d⟩;(· exact nxb.out (c▸e));(· rw[c]at e;cases e;have:=xl.out;omega)
    have b5:=zh (oa.out.kept (AA W ⟨xb,1,none⟩ (.slice Aa2 (i+1) af)) (.inr nxa2.out));have aB:=zh (ob.out.kept (AA W ⟨xb,1,none⟩ (.slice Aa2 (i+1) af)) (.inr nxb2.out));clear x1 f1 x9;refine hK.out _ _ (Aj al.out) (fun _=>?_);clear hK K
    try simp only[List.setIfInBounds_toArray,List.set_cons_zero,List.set_cons_succ]
    refine tkdG (v:=?_) 19 rfl (Aj al.out) (Or.inl ⟨by rfl,?_⟩) ?_;rotate_left
    · (intro w ai;obtain⟨q1,q2,q3⟩:=ai;go_simp<;>with_reducible rfl)
    try simp only[Act.put,List.setIfInBounds_toArray,List.set_cons_zero,List.set_cons_succ]
    refine tkdG (v:=?_) 20 rfl (Aj al.out) (Or.inl ⟨by rfl,?_⟩) ?_;rotate_left
    · (intro w ai;obtain⟨q1,q2,q3⟩:=ai;go_simp<;>with_reducible rfl)
    try simp only[Act.put,List.setIfInBounds_toArray,List.set_cons_zero,List.set_cons_succ]
    have x1:=ar.out.c2;have f1:=ar.out.frozen 2;have x9:=ar.out.lt;refine wpAnyH_ready (rs:=[21]) (by kernel_rfl) (by simp) ?_;refine AllReadyH.cons (o:=_) rfl (fun K hK=>?_) ?_
    · go_simp;have cm:Hid (Bk ((W.setCell ⟨xb,1,none⟩ (.slice Aa2 (i+1) af)).setCell ⟨xb,2,none⟩ (.slice Ab2 (i+1) ak)) gb 40 [.bool x.1,.string x.2.1,.string x.2.2]):=al.out.far (p:=⟨xb,2,none⟩) ngx.out _;have cu:Hid (Bk ((W.setCell ⟨xb,1,none⟩ (.slice Aa2 (i+1) af)).setCell ⟨xb,2,none⟩ (.slice Ab2 (i+1) ak)) xb 75 [uv,.slice Aa2 (i+1) af,.slice Ab2 (i+1) ak]):=ar.out.set 2 (.slice Ab2 (i+1) ak);have cq:Hid (Kp (xb::((Value.slice Aa i ca).ownBlock.toList++(Value.slice Ab i cb).ownBlock.toList)) w ((W.setCell ⟨xb,1,none⟩ (.slice Aa2 (i+1) af)).setCell ⟨xb,2,none⟩ (.slice Ab2 (i+1) ak))):=ax.out.set (a:=⟨xb,2,none⟩) _ (.inl (by simp));have cx:=zh (b5.out.kept (AA (W.setCell ⟨xb,1,none⟩ (.slice Aa2 (i+1) af)) ⟨xb,2,none⟩ (.slice Ab2 (i+1) ak)) (.inr nxa2.out));have cz:=zh (aB.out.kept (AA (W.setCell ⟨xb,1,none⟩ (.slice Aa2 (i+1) af)) ⟨xb,2,none⟩ (.slice Ab2 (i+1) ak)) (.inr nxb2.out));clear x1 f1 x9;refine hK.out _ _ (Aj cm.out) (fun _=>?_);clear hK K
      try simp only[List.setIfInBounds_toArray,List.set_cons_zero,List.set_cons_succ]
      refine wpAnyH_done (by kernel_rfl) ?_ _;refine NoPanic.normal ?_;exact h.out _ _ _ _ _ _ _ _ _ _ _ _ _ _ _ _ _ _ _ _ _ _ _ _ _ cq cu cx cz ap na nb
    exact AllReadyH.nil
  exact AllReadyH.nil
 have Lx5x7x8x12x14:∀(l7:Nat) (Aa2:Option Addr) (af:Nat) (aa:Nat) (W:World),Hid (G22 xb gb uv Aa Ab i ca cb x w W)->Hid (W.ownsRow B1 27 1 (Value.slice Aa2 (i+1) af) (i+1) (aj++[.slice (some ⟨rb,0,none⟩) m m]))->Hid ((Value.slice Aa2 (i+1) af).ownBlock=(Value.slice Aa i ca).ownBlock∨∃b,(Value.slice Aa2 (i+1) af).ownBlock=some b/\w.heap.size<=b)->Hid (W.ownsRow B1 40 3 (Value.slice Ab i cb) i cbs)->Hid (∀b,(Value.slice Aa2 (i+1) af).ownBlock=some b->(Value.slice Ab i cb).ownBlock≠some b)->Hid ((W.cell? ⟨aa,0,none⟩=some (.bool x.1)/\W.cell? ⟨aa,1,none⟩=some (.string x.2.1)/\W.cell? ⟨aa,2,none⟩=some (.string x.2.2))/\w.heap.size<=aa/\aa<W.heap.size)->F 7 #[true,true,true,true,true,true,true,true,true,true,true,true,true,true,true,false,false,false,false,false,false,false] (fr (.slice Aa i ca) (.slice (some ⟨l7,0,none⟩) 1 1) (.slice Aa2 (i+1) af) (.slice Ab i cb) (.slice (some ⟨aa,0,none⟩) 1 1) ag) W:=by
  intro l7 Aa2 af aa W hg oa na ob ap ad;rw[hF.out,ae.out];dsimp only;refine wpAnyH_ready (rs:=[15]) (by kernel_rfl) (by simp) ?_;refine AllReadyH.cons (o:=_) rfl (fun K hK=>?_) ?_
  · rw[if_pos (by rfl)];refine Nt.Bb _ _ _ 27 rfl B1 40 i3 (.agg #[.bool false,.string ⟨#[]⟩,.string ⟨#[]⟩]) 3 40 Tryz.underlying27 b4.out z0i3.out z1i3.out z2i3.out rfl (by decide) (.slice Ab i cb) i cbs rfl ob.out ⟨aa,0,none⟩ 1 1 [.bool x.1,.string x.2.1,.string x.2.2] rfl rfl (RO ad.out.1.1 ad.out.1.2.1 ad.out.1.2.2) (fun u hu=>FP x u hu) (by omega) (by unfold maxLen;omega) (by omega) (Nat.le_trans aC.out hg.out.k.size) ?_;intro vx wx aq ah ao;obtain⟨A9,c9,rfl⟩:=Eh aq;have al:=zh (hg.out.b.grown ah (fun e=>ngb.out e.symm));have ar:=zh (hg.out.y.grown ah (fun e=>nxb.out e.symm));have ax:=zh (Ig hg.out.k ah cr.out);have b5:=zh (oa.out.kept ah (by cases e:(Value.slice Aa2 (i+1) af).ownBlock with | none=>exact .inl rfl | some b=>exact .inr (fun e2=>ap.out b e e2.symm)));have cv:Hid ((Value.slice A9 (i+1) c9).ownBlock=(Value.slice Ab i cb).ownBlock∨∃b,(Value.slice A9 (i+1) c9).ownBlock=some b/\w.heap.size<=b):=ao.imp id fun e=>⟨_,e,hg.out.k.size⟩;have aA:Hid (∀b,(Value.slice Aa2 (i+1) af).ownBlock=some b->(Value.slice A9 (i+1) c9).ownBlock≠some b):=fun b e e2=>by rcases ao with c | c;(· exact ap.out b e (c▸e2));(· rw[c]at e2;cases e2;have:=(oa.out.lt _ e).2;omega)
    refine hK.out _ _ (Aj al.out) (fun _=>?_);clear hK K
    try simp only[Act.put,List.setIfInBounds_toArray,List.set_cons_zero,List.set_cons_succ]
    rw[<-hF.out];have hl:=Lx5x7x8x12x14x15 l7 Aa2 af aa A9 c9 wx (zh ⟨ax.out,ar.out,al.out⟩) b5 na (zh aq) cv aA;rw[ae.out]at hl;exact hl
  exact AllReadyH.nil
 have Lx5x7x12x14:∀(l7:Nat) (aa:Nat) (W:World),Hid (G22 xb gb uv Aa Ab i ca cb x w W)->Hid (W.ownsRow B1 27 1 (Value.slice Aa i ca) i aj)->Hid (W.ownsRow B1 40 3 (Value.slice Ab i cb) i cbs)->Hid (∀b,(Value.slice Aa i ca).ownBlock=some b->(Value.slice Ab i cb).ownBlock≠some b)->Hid (W.cell? ⟨l7,0,none⟩=some (.slice (some ⟨rb,0,none⟩) m m)/\w.heap.size<=l7/\l7<W.heap.size)->Hid ((W.cell? ⟨aa,0,none⟩=some (.bool x.1)/\W.cell? ⟨aa,1,none⟩=some (.string x.2.1)/\W.cell? ⟨aa,2,none⟩=some (.string x.2.2))/\w.heap.size<=aa/\aa<W.heap.size)->F 8 #[true,true,true,true,true,true,true,true,false,true,true,true,true,true,true,false,false,false,false,false,false,false] (fr (.slice Aa i ca) (.slice (some ⟨l7,0,none⟩) 1 1) an (.slice Ab i cb) (.slice (some ⟨aa,0,none⟩) 1 1) ag) W:=by
  intro l7 aa W hg oa ob ap c7 ad;rw[hF.out,ae.out];dsimp only;refine wpAnyH_ready (rs:=[8]) (by kernel_rfl) (by simp) ?_;refine AllReadyH.cons (o:=_) rfl (fun K hK=>?_) ?_
  · rw [if_pos (by rfl)];refine Nt.Bb _ _ _ 73 rfl B1 27 i0 (.slice none 0 0) 1 24 Tryz.underlying73 aE.out z0i0.out z1i0.out z2i0.out rfl (by decide) (.slice Aa i ca) i aj rfl oa.out ⟨l7,0,none⟩ 1 1 [.slice (some ⟨rb,0,none⟩) m m] rfl rfl (JQ c7.out.1) (Ci.Bg _ rfl) (by omega) (by unfold maxLen;omega) (by omega) (Nat.le_trans aC.out hg.out.k.size) ?_;intro vx wx aq ah ao;obtain⟨A9,c9,rfl⟩:=Eh aq;have al:=zh (hg.out.b.grown ah (fun e=>nga.out e.symm));have ar:=zh (hg.out.y.grown ah (fun e=>nxa.out e.symm));have ax:=zh (Ig hg.out.k ah aI.out);have aB:=zh (ob.out.kept ah (by cases e:(Value.slice Ab i cb).ownBlock with | none=>exact .inl rfl | some b=>exact .inr (fun e2=>ap.out b e2.symm e)));have aD:Hid ((Value.slice A9 (i+1) c9).ownBlock=(Value.slice Aa i ca).ownBlock∨∃b,(Value.slice A9 (i+1) c9).ownBlock=some b/\w.heap.size<=b):=ao.imp id fun e=>⟨_,e,hg.out.k.size⟩;have aA:Hid (∀b,(Value.slice A9 (i+1) c9).ownBlock=some b->(Value.slice Ab i cb).ownBlock≠some b):=fun b e e2=>by rcases ao with c | c;(· exact ap.out b (c▸e) e2);(· rw[c]at e;cases e;have:=(ob.out.lt _ e2).2;omega)
    have aG:Hid (((wx.cell? ⟨aa,0,none⟩=some (.bool x.1)/\wx.cell? ⟨aa,1,none⟩=some (.string x.2.1)/\wx.cell? ⟨aa,2,none⟩=some (.string x.2.2))/\w.heap.size<=aa/\aa<wx.heap.size)):=by
     have aw:=ah.block aa ad.out.2.2 (fun e=>by have:=(b8.out _ e.symm).2;have:=ad.out.2.1;omega);exact⟨⟨(World.cell?_of_block (a:=⟨aa,0,none⟩) aw).trans ad.out.1.1,(World.cell?_of_block (a:=⟨aa,1,none⟩) aw).trans ad.out.1.2.1,(World.cell?_of_block (a:=⟨aa,2,none⟩) aw).trans ad.out.1.2.2⟩,ad.out.2.1,Nat.lt_of_lt_of_le ad.out.2.2 ah.size⟩
    refine hK.out _ _ (Aj al.out) (fun _=>?_);clear hK K
    try simp only[Act.put,List.setIfInBounds_toArray,List.set_cons_zero,List.set_cons_succ]
    rw[<-hF.out];have hl:=Lx5x7x8x12x14 l7 A9 c9 aa wx (zh ⟨ax.out,ar.out,al.out⟩) (zh aq) aD aB aA aG;rw[ae.out]at hl;exact hl
  exact AllReadyH.nil
 have Lx5x7x8x12:∀(l7:Nat) (Aa2:Option Addr) (af:Nat) (W:World),Hid (G22 xb gb uv Aa Ab i ca cb x w W)->Hid (W.ownsRow B1 27 1 (Value.slice Aa2 (i+1) af) (i+1) (aj++[.slice (some ⟨rb,0,none⟩) m m]))->Hid ((Value.slice Aa2 (i+1) af).ownBlock=(Value.slice Aa i ca).ownBlock∨∃b,(Value.slice Aa2 (i+1) af).ownBlock=some b/\w.heap.size<=b)->Hid (W.ownsRow B1 40 3 (Value.slice Ab i cb) i cbs)->Hid (∀b,(Value.slice Aa2 (i+1) af).ownBlock=some b->(Value.slice Ab i cb).ownBlock≠some b)->F 8 #[true,true,true,true,true,true,true,true,true,true,true,true,true,true,false,false,false,false,false,false,false,false] (fr (.slice Aa i ca) (.slice (some ⟨l7,0,none⟩) 1 1) (.slice Aa2 (i+1) af) (.slice Ab i cb) am ag) W:=by
  intro l7 Aa2 af W hg oa na ob ap;rw[hF.out,ae.out];dsimp only;refine wpAnyH_ready (rs:=[14]) (by kernel_rfl) (by simp) ?_;refine AllReadyH.cons (o:=_) rfl (fun K hK=>?_) ?_
  · go_simp;refine hK.out _ _ (Aj (hg.out.b.alloc _)) (fun _=>?_);clear hK K
    try simp only[List.setIfInBounds_toArray,List.set_cons_zero,List.set_cons_succ]
    rw[<-hF.out];have hl:=Lx5x7x8x12x14 l7 Aa2 af W.heap.size (W.alloc (.cells #[.bool x.1,.string x.2.1,.string x.2.2] 40)) (zh ((hg.out.alloc _))) (zh ((oa.out.alloc _))) (zh (na.out)) (zh ((ob.out.alloc _))) (zh (ap.out)) (zh (⟨⟨(Bk.new W 40 [.bool x.1,.string x.2.1,.string x.2.2]).c0,(Bk.new W 40 [.bool x.1,.string x.2.1,.string x.2.2]).c1,(Bk.new W 40 [.bool x.1,.string x.2.1,.string x.2.2]).c2⟩,hg.out.k.size,by rw[World.size_alloc];exact Nat.lt_succ_self _⟩));rw[ae.out]at hl;exact hl
  exact AllReadyH.nil
 have Lx5x7x12:∀(l7:Nat) (W:World),Hid (G22 xb gb uv Aa Ab i ca cb x w W)->Hid (W.ownsRow B1 27 1 (Value.slice Aa i ca) i aj)->Hid (W.ownsRow B1 40 3 (Value.slice Ab i cb) i cbs)->Hid (∀b,(Value.slice Aa i ca).ownBlock=some b->(Value.slice Ab i cb).ownBlock≠some b)->Hid (W.cell? ⟨l7,0,none⟩=some (.slice (some ⟨rb,0,none⟩) m m)/\w.heap.size<=l7/\l7<W.heap.size)->F 9 #[true,true,true,true,true,true,true,true,false,true,true,true,true,true,false,false,false,false,false,false,false,false] (fr (.slice Aa i ca) (.slice (some ⟨l7,0,none⟩) 1 1) an (.slice Ab i cb) am ag) W:=by
  intro l7 W hg oa ob ap c7;rw[hF.out,ae.out];dsimp only;refine wpAnyH_ready (rs:=[8,14]) (by kernel_rfl) (by simp) ?_;refine AllReadyH.cons (o:=_) rfl (fun K hK=>?_) ?_
  · rw[if_pos (by rfl)];refine Nt.Bb _ _ _ 73 rfl B1 27 i0 (.slice none 0 0) 1 24 Tryz.underlying73 aE.out z0i0.out z1i0.out z2i0.out rfl (by decide) (.slice Aa i ca) i aj rfl oa.out ⟨l7,0,none⟩ 1 1 [.slice (some ⟨rb,0,none⟩) m m] rfl rfl (JQ c7.out.1) (Ci.Bg _ rfl) (by omega) (by unfold maxLen;omega) (by omega) (Nat.le_trans aC.out hg.out.k.size) ?_;intro vx wx aq ah ao;obtain⟨A9,c9,rfl⟩:=Eh aq;have al:=zh (hg.out.b.grown ah (fun e=>nga.out e.symm));have ar:=zh (hg.out.y.grown ah (fun e=>nxa.out e.symm));have ax:=zh (Ig hg.out.k ah aI.out);have aB:=zh (ob.out.kept ah (by cases e:(Value.slice Ab i cb).ownBlock with | none=>exact .inl rfl | some b=>exact .inr (fun e2=>ap.out b e2.symm e)));have aD:Hid ((Value.slice A9 (i+1) c9).ownBlock=(Value.slice Aa i ca).ownBlock∨∃b,(Value.slice A9 (i+1) c9).ownBlock=some b/\w.heap.size<=b):=ao.imp id fun e=>⟨_,e,hg.out.k.size⟩;have aA:Hid (∀b,(Value.slice A9 (i+1) c9).ownBlock=some b->(Value.slice Ab i cb).ownBlock≠some b):=fun b e e2=>by rcases ao with c | c;(· exact ap.out b (c▸e) e2);(· rw[c]at e;cases e;have:=(ob.out.lt _ e2).2;omega)
    refine hK.out _ _ (Aj al.out) (fun _=>?_);clear hK K
    try simp only[Act.put,List.setIfInBounds_toArray,List.set_cons_zero,List.set_cons_succ]
    rw[<-hF.out];have hl:=Lx5x7x8x12 l7 A9 c9 wx (zh ⟨ax.out,ar.out,al.out⟩) (zh aq) aD aB aA;rw[ae.out]at hl;exact hl
  refine AllReadyH.cons (o:=_) rfl (fun K hK=>?_) ?_
  · go_simp;refine hK.out _ _ (Aj (hg.out.b.alloc _)) (fun _=>?_);clear hK K
    try simp only[List.setIfInBounds_toArray,List.set_cons_zero,List.set_cons_succ]
    rw[<-hF.out];have hl:=Lx5x7x12x14 l7 W.heap.size (W.alloc (.cells #[.bool x.1,.string x.2.1,.string x.2.2] 40)) (zh ((hg.out.alloc _))) (zh ((oa.out.alloc _))) (zh ((ob.out.alloc _))) (zh (ap.out)) (zh (⟨(World.cell?_alloc_lt _ _ _ c7.out.2.2).trans c7.out.1,c7.out.2.1,by rw[World.size_alloc];exact Nat.lt_succ_of_lt c7.out.2.2⟩)) (zh (⟨⟨(Bk.new W 40 [.bool x.1,.string x.2.1,.string x.2.2]).c0,(Bk.new W 40 [.bool x.1,.string x.2.1,.string x.2.2]).c1,(Bk.new W 40 [.bool x.1,.string x.2.1,.string x.2.2]).c2⟩,hg.out.k.size,by rw[World.size_alloc];exact Nat.lt_succ_self _⟩));rw[ae.out]at hl;exact hl
  exact AllReadyH.nil
 have Lx5x7x8x14:∀(l7:Nat) (Aa2:Option Addr) (af:Nat) (aa:Nat) (W:World),Hid (G22 xb gb uv Aa Ab i ca cb x w W)->Hid (W.ownsRow B1 27 1 (Value.slice Aa2 (i+1) af) (i+1) (aj++[.slice (some ⟨rb,0,none⟩) m m]))->Hid ((Value.slice Aa2 (i+1) af).ownBlock=(Value.slice Aa i ca).ownBlock∨∃b,(Value.slice Aa2 (i+1) af).ownBlock=some b/\w.heap.size<=b)->Hid (W.ownsRow B1 40 3 (Value.slice Ab i cb) i cbs)->Hid (∀b,(Value.slice Aa2 (i+1) af).ownBlock=some b->(Value.slice Ab i cb).ownBlock≠some b)->Hid ((W.cell? ⟨aa,0,none⟩=some (.bool x.1)/\W.cell? ⟨aa,1,none⟩=some (.string x.2.1)/\W.cell? ⟨aa,2,none⟩=some (.string x.2.2))/\w.heap.size<=aa/\aa<W.heap.size)->F 8 #[true,true,true,true,true,true,true,true,true,true,true,true,false,true,true,false,false,false,false,false,false,false] (fr (.slice Aa i ca) (.slice (some ⟨l7,0,none⟩) 1 1) (.slice Aa2 (i+1) af) av (.slice (some ⟨aa,0,none⟩) 1 1) ag) W:=by
  intro l7 Aa2 af aa W hg oa na ob ap ad;rw[hF.out,ae.out];dsimp only;refine wpAnyH_ready (rs:=[12]) (by kernel_rfl) (by simp) ?_;have x1:=hg.out.y.c2;have x9:=hg.out.y.lt;refine AllReadyH.cons (o:=_) rfl (fun K hK=>?_) ?_
  · go_simp;clear x1 x9;refine hK.out _ _ (Aj hg.out.b) (fun _=>?_);clear hK K
    try simp only[List.setIfInBounds_toArray,List.set_cons_zero,List.set_cons_succ]
    rw[<-hF.out];have hl:=Lx5x7x8x12x14 l7 Aa2 af aa W hg oa na ob ap ad;rw[ae.out]at hl;exact hl
  clear x1 x9;exact AllReadyH.nil
 have Lx5x7x14:∀(l7:Nat) (aa:Nat) (W:World),Hid (G22 xb gb uv Aa Ab i ca cb x w W)->Hid (W.ownsRow B1 27 1 (Value.slice Aa i ca) i aj)->Hid (W.ownsRow B1 40 3 (Value.slice Ab i cb) i cbs)->Hid (∀b,(Value.slice Aa i ca).ownBlock=some b->(Value.slice Ab i cb).ownBlock≠some b)->Hid (W.cell? ⟨l7,0,none⟩=some (.slice (some ⟨rb,0,none⟩) m m)/\w.heap.size<=l7/\l7<W.heap.size)->Hid ((W.cell? ⟨aa,0,none⟩=some (.bool x.1)/\W.cell? ⟨aa,1,none⟩=some (.string x.2.1)/\W.cell? ⟨aa,2,none⟩=some (.string x.2.2))/\w.heap.size<=aa/\aa<W.heap.size)->F 9 #[true,true,true,true,true,true,true,true,false,true,true,true,false,true,true,false,false,false,false,false,false,false] (fr (.slice Aa i ca) (.slice (some ⟨l7,0,none⟩) 1 1) an av (.slice (some ⟨aa,0,none⟩) 1 1) ag) W:=by
  intro l7 aa W hg oa ob ap c7 ad;rw[hF.out,ae.out];dsimp only;refine wpAnyH_ready (rs:=[8,12]) (by kernel_rfl) (by simp) ?_;refine AllReadyH.cons (o:=_) rfl (fun K hK=>?_) ?_
  · rw [if_pos (by rfl)];refine Nt.Bb _ _ _ 73 rfl B1 27 i0 (.slice none 0 0) 1 24 Tryz.underlying73 aE.out z0i0.out z1i0.out z2i0.out rfl (by decide) (.slice Aa i ca) i aj rfl oa.out ⟨l7,0,none⟩ 1 1 [.slice (some ⟨rb,0,none⟩) m m] rfl rfl (JQ c7.out.1) (Ci.Bg _ rfl) (by omega) (by unfold maxLen;omega) (by omega) (Nat.le_trans aC.out hg.out.k.size) ?_;intro vx wx aq ah ao;obtain⟨A9,c9,rfl⟩:=Eh aq;have al:=zh (hg.out.b.grown ah (fun e=>nga.out e.symm));have ar:=zh (hg.out.y.grown ah (fun e=>nxa.out e.symm));have ax:=zh (Ig hg.out.k ah aI.out);have aB:=zh (ob.out.kept ah (by cases e:(Value.slice Ab i cb).ownBlock with | none=>exact .inl rfl | some b=>exact .inr (fun e2=>ap.out b e2.symm e)));have aD:Hid ((Value.slice A9 (i+1) c9).ownBlock=(Value.slice Aa i ca).ownBlock∨∃b,(Value.slice A9 (i+1) c9).ownBlock=some b/\w.heap.size<=b):=ao.imp id fun e=>⟨_,e,hg.out.k.size⟩;have aA:Hid (∀b,(Value.slice A9 (i+1) c9).ownBlock=some b->(Value.slice Ab i cb).ownBlock≠some b):=fun b e e2=>by rcases ao with c | c;(· exact ap.out b (c▸e) e2);(· rw[c]at e;cases e;have:=(ob.out.lt _ e2).2;omega)
    have aG:Hid (((wx.cell? ⟨aa,0,none⟩=some (.bool x.1)/\wx.cell? ⟨aa,1,none⟩=some (.string x.2.1)/\wx.cell? ⟨aa,2,none⟩=some (.string x.2.2))/\w.heap.size<=aa/\aa<wx.heap.size)):=by
     have aw:=ah.block aa ad.out.2.2 (fun e=>by have:=(b8.out _ e.symm).2;have:=ad.out.2.1;omega);exact⟨⟨(World.cell?_of_block (a:=⟨aa,0,none⟩) aw).trans ad.out.1.1,(World.cell?_of_block (a:=⟨aa,1,none⟩) aw).trans ad.out.1.2.1,(World.cell?_of_block (a:=⟨aa,2,none⟩) aw).trans ad.out.1.2.2⟩,ad.out.2.1,Nat.lt_of_lt_of_le ad.out.2.2 ah.size⟩
    refine hK.out _ _ (Aj al.out) (fun _=>?_);clear hK K
    try simp only[Act.put,List.setIfInBounds_toArray,List.set_cons_zero,List.set_cons_succ]
    rw[<-hF.out];have hl:=Lx5x7x8x14 l7 A9 c9 aa wx (zh ⟨ax.out,ar.out,al.out⟩) (zh aq) aD aB aA aG;rw[ae.out]at hl;exact hl
  have x1:=hg.out.y.c2;have x9:=hg.out.y.lt;refine AllReadyH.cons (o:=_) rfl (fun K hK=>?_) ?_
  · go_simp;clear x1 x9;refine hK.out _ _ (Aj hg.out.b) (fun _=>?_);clear hK K
    try simp only[List.setIfInBounds_toArray,List.set_cons_zero,List.set_cons_succ]
    rw[<-hF.out];have hl:=Lx5x7x12x14 l7 aa W hg oa ob ap c7 ad;rw[ae.out]at hl;exact hl
  clear x1 x9;exact AllReadyH.nil
 have Lx5x7x8:∀(l7:Nat) (Aa2:Option Addr) (af:Nat) (W:World),Hid (G22 xb gb uv Aa Ab i ca cb x w W)->Hid (W.ownsRow B1 27 1 (Value.slice Aa2 (i+1) af) (i+1) (aj++[.slice (some ⟨rb,0,none⟩) m m]))->Hid ((Value.slice Aa2 (i+1) af).ownBlock=(Value.slice Aa i ca).ownBlock∨∃b,(Value.slice Aa2 (i+1) af).ownBlock=some b/\w.heap.size<=b)->Hid (W.ownsRow B1 40 3 (Value.slice Ab i cb) i cbs)->Hid (∀b,(Value.slice Aa2 (i+1) af).ownBlock=some b->(Value.slice Ab i cb).ownBlock≠some b)->F 9 #[true,true,true,true,true,true,true,true,true,true,true,true,false,true,false,false,false,false,false,false,false,false] (fr (.slice Aa i ca) (.slice (some ⟨l7,0,none⟩) 1 1) (.slice Aa2 (i+1) af) av am ag) W:=by
  intro l7 Aa2 af W hg oa na ob ap;rw[hF.out,ae.out];dsimp only;refine wpAnyH_ready (rs:=[12,14]) (by kernel_rfl) (by simp) ?_;have x1:=hg.out.y.c2;have x9:=hg.out.y.lt;refine AllReadyH.cons (o:=_) rfl (fun K hK=>?_) ?_
  · go_simp;clear x1 x9;refine hK.out _ _ (Aj hg.out.b) (fun _=>?_);clear hK K
    try simp only[List.setIfInBounds_toArray,List.set_cons_zero,List.set_cons_succ]
    rw[<-hF.out];have hl:=Lx5x7x8x12 l7 Aa2 af W hg oa na ob ap;rw[ae.out]at hl;exact hl
  clear x1 x9;refine AllReadyH.cons (o:=_) rfl (fun K hK=>?_) ?_
  · go_simp;refine hK.out _ _ (Aj (hg.out.b.alloc _)) (fun _=>?_);clear hK K
    try simp only[List.setIfInBounds_toArray,List.set_cons_zero,List.set_cons_succ]
    rw[<-hF.out];have hl:=Lx5x7x8x14 l7 Aa2 af W.heap.size (W.alloc (.cells #[.bool x.1,.string x.2.1,.string x.2.2] 40)) (zh ((hg.out.alloc _))) (zh ((oa.out.alloc _))) (zh (na.out)) (zh ((ob.out.alloc _))) (zh (ap.out)) (zh (⟨⟨(Bk.new W 40 [.bool x.1,.string x.2.1,.string x.2.2]).c0,(Bk.new W 40 [.bool x.1,.string x.2.1,.string x.2.2]).c1,(Bk.new W 40 [.bool x.1,.string x.2.1,.string x.2.2]).c2⟩,hg.out.k.size,by rw[World.size_alloc];exact Nat.lt_succ_self _⟩));rw[ae.out]at hl;exact hl
  exact AllReadyH.nil
 have Lx5x7:∀(l7:Nat) (W:World),Hid (G22 xb gb uv Aa Ab i ca cb x w W)->Hid (W.ownsRow B1 27 1 (Value.slice Aa i ca) i aj)->Hid (W.ownsRow B1 40 3 (Value.slice Ab i cb) i cbs)->Hid (∀b,(Value.slice Aa i ca).ownBlock=some b->(Value.slice Ab i cb).ownBlock≠some b)->Hid (W.cell? ⟨l7,0,none⟩=some (.slice (some ⟨rb,0,none⟩) m m)/\w.heap.size<=l7/\l7<W.heap.size)->F 10 #[true,true,true,true,true,true,true,true,false,true,true,true,false,true,false,false,false,false,false,false,false,false] (fr (.slice Aa i ca) (.slice (some ⟨l7,0,none⟩) 1 1) an av am ag) W:=by
  intro l7 W hg oa ob ap c7;rw[hF.out,ae.out];dsimp only;refine wpAnyH_ready (rs:=[8,12,14]) (by kernel_rfl) (by simp) ?_;refine AllReadyH.cons (o:=_) rfl (fun K hK=>?_) ?_
  · rw[if_pos (by rfl)];refine Nt.Bb _ _ _ 73 rfl B1 27 i0 (.slice none 0 0) 1 24 Tryz.underlying73 aE.out z0i0.out z1i0.out z2i0.out rfl (by decide) (.slice Aa i ca) i aj rfl oa.out ⟨l7,0,none⟩ 1 1 [.slice (some ⟨rb,0,none⟩) m m] rfl rfl (JQ c7.out.1) (Ci.Bg _ rfl) (by omega) (by unfold maxLen;omega) (by omega) (Nat.le_trans aC.out hg.out.k.size) ?_;intro vx wx aq ah ao;obtain⟨A9,c9,rfl⟩:=Eh aq;have al:=zh (hg.out.b.grown ah (fun e=>nga.out e.symm));have ar:=zh (hg.out.y.grown ah (fun e=>nxa.out e.symm));have ax:=zh (Ig hg.out.k ah aI.out);have aB:=zh (ob.out.kept ah (by cases e:(Value.slice Ab i cb).ownBlock with | none=>exact .inl rfl | some b=>exact .inr (fun e2=>ap.out b e2.symm e)));have aD:Hid ((Value.slice A9 (i+1) c9).ownBlock=(Value.slice Aa i ca).ownBlock∨∃b,(Value.slice A9 (i+1) c9).ownBlock=some b/\w.heap.size<=b):=ao.imp id fun e=>⟨_,e,hg.out.k.size⟩;have aA:Hid (∀b,(Value.slice A9 (i+1) c9).ownBlock=some b->(Value.slice Ab i cb).ownBlock≠some b):=fun b e e2=>by rcases ao with c | c;(· exact ap.out b (c▸e) e2);(· rw[c]at e;cases e;have:=(ob.out.lt _ e2).2;omega)
    refine hK.out _ _ (Aj al.out) (fun _=>?_);clear hK K
    try simp only[Act.put,List.setIfInBounds_toArray,List.set_cons_zero,List.set_cons_succ]
    rw[<-hF.out];have hl:=Lx5x7x8 l7 A9 c9 wx (zh ⟨ax.out,ar.out,al.out⟩) (zh aq) aD aB aA;rw[ae.out]at hl;exact hl
  have x1:=hg.out.y.c2;have x9:=hg.out.y.lt;refine AllReadyH.cons (o:=_) rfl (fun K hK=>?_) ?_
  · go_simp;clear x1 x9;refine hK.out _ _ (Aj hg.out.b) (fun _=>?_);clear hK K
    try simp only[List.setIfInBounds_toArray,List.set_cons_zero,List.set_cons_succ]
    rw[<-hF.out];have hl:=Lx5x7x12 l7 W hg oa ob ap c7;rw[ae.out]at hl;exact hl
  clear x1 x9;refine AllReadyH.cons (o:=_) rfl (fun K hK=>?_) ?_
  · go_simp;refine hK.out _ _ (Aj (hg.out.b.alloc _)) (fun _=>?_);clear hK K
    try simp only[List.setIfInBounds_toArray,List.set_cons_zero,List.set_cons_succ]
    rw[<-hF.out];have hl:=Lx5x7x14 l7 W.heap.size (W.alloc (.cells #[.bool x.1,.string x.2.1,.string x.2.2] 40)) (zh ((hg.out.alloc _))) (zh ((oa.out.alloc _))) (zh ((ob.out.alloc _))) (zh (ap.out)) (zh (⟨(World.cell?_alloc_lt _ _ _ c7.out.2.2).trans c7.out.1,c7.out.2.1,by rw[World.size_alloc];exact Nat.lt_succ_of_lt c7.out.2.2⟩)) (zh (⟨⟨(Bk.new W 40 [.bool x.1,.string x.2.1,.string x.2.2]).c0,(Bk.new W 40 [.bool x.1,.string x.2.1,.string x.2.2]).c1,(Bk.new W 40 [.bool x.1,.string x.2.1,.string x.2.2]).c2⟩,hg.out.k.size,by rw[World.size_alloc];exact Nat.lt_succ_self _⟩));rw[ae.out]at hl;exact hl
  exact AllReadyH.nil
 have Lx5x12x14:∀(aa:Nat) (W:World),Hid (G22 xb gb uv Aa Ab i ca cb x w W)->Hid (W.ownsRow B1 27 1 (Value.slice Aa i ca) i aj)->Hid (W.ownsRow B1 40 3 (Value.slice Ab i cb) i cbs)->Hid (∀b,(Value.slice Aa i ca).ownBlock=some b->(Value.slice Ab i cb).ownBlock≠some b)->Hid ((W.cell? ⟨aa,0,none⟩=some (.bool x.1)/\W.cell? ⟨aa,1,none⟩=some (.string x.2.1)/\W.cell? ⟨aa,2,none⟩=some (.string x.2.2))/\w.heap.size<=aa/\aa<W.heap.size)->F 9 #[true,true,true,true,true,true,true,false,false,true,true,true,true,true,true,false,false,false,false,false,false,false] (fr (.slice Aa i ca) az an (.slice Ab i cb) (.slice (some ⟨aa,0,none⟩) 1 1) ag) W:=by
  intro aa W hg oa ob ap ad;rw[hF.out,ae.out];dsimp only;refine wpAnyH_ready (rs:=[7]) (by kernel_rfl) (by simp) ?_;refine AllReadyH.cons (o:=_) rfl (fun K hK=>?_) ?_
  · go_simp;refine hK.out _ _ (Aj (hg.out.b.alloc _)) (fun _=>?_);clear hK K
    try simp only[List.setIfInBounds_toArray,List.set_cons_zero,List.set_cons_succ]
    rw[<-hF.out];have hl:=Lx5x7x12x14 W.heap.size aa (W.alloc (.cells #[.slice (some ⟨rb,0,none⟩) m m] 27)) (zh ((hg.out.alloc _))) (zh ((oa.out.alloc _))) (zh ((ob.out.alloc _))) (zh (ap.out)) (zh (⟨(Bk.new W 27 [.slice (some ⟨rb,0,none⟩) m m]).c0,hg.out.k.size,by rw[World.size_alloc];exact Nat.lt_succ_self _⟩)) (zh (⟨⟨(World.cell?_alloc_lt _ _ _ ad.out.2.2).trans ad.out.1.1,(World.cell?_alloc_lt _ _ _ ad.out.2.2).trans ad.out.1.2.1,(World.cell?_alloc_lt _ _ _ ad.out.2.2).trans ad.out.1.2.2⟩,ad.out.2.1,by rw[World.size_alloc];exact Nat.lt_succ_of_lt ad.out.2.2⟩));rw[ae.out]at hl;exact hl
  exact AllReadyH.nil
 have Lx5x12:∀(W:World),Hid (G22 xb gb uv Aa Ab i ca cb x w W)->Hid (W.ownsRow B1 27 1 (Value.slice Aa i ca) i aj)->Hid (W.ownsRow B1 40 3 (Value.slice Ab i cb) i cbs)->Hid (∀b,(Value.slice Aa i ca).ownBlock=some b->(Value.slice Ab i cb).ownBlock≠some b)->F 10 #[true,true,true,true,true,true,true,false,false,true,true,true,true,true,false,false,false,false,false,false,false,false] (fr (.slice Aa i ca) az an (.slice Ab i cb) am ag) W:=by
  intro  W hg oa ob ap;rw[hF.out,ae.out];dsimp only;refine wpAnyH_ready (rs:=[7,14]) (by kernel_rfl) (by simp) ?_;refine AllReadyH.cons (o:=_) rfl (fun K hK=>?_) ?_
  · go_simp;refine hK.out _ _ (Aj (hg.out.b.alloc _)) (fun _=>?_);clear hK K
    try simp only[List.setIfInBounds_toArray,List.set_cons_zero,List.set_cons_succ]
    rw[<-hF.out];have hl:=Lx5x7x12 W.heap.size (W.alloc (.cells #[.slice (some ⟨rb,0,none⟩) m m] 27)) (zh ((hg.out.alloc _))) (zh ((oa.out.alloc _))) (zh ((ob.out.alloc _))) (zh (ap.out)) (zh (⟨(Bk.new W 27 [.slice (some ⟨rb,0,none⟩) m m]).c0,hg.out.k.size,by rw[World.size_alloc];exact Nat.lt_succ_self _⟩));rw[ae.out]at hl;exact hl
  refine AllReadyH.cons (o:=_) rfl (fun K hK=>?_) ?_
  · go_simp;refine hK.out _ _ (Aj (hg.out.b.alloc _)) (fun _=>?_);clear hK K
    try simp only[List.setIfInBounds_toArray,List.set_cons_zero,List.set_cons_succ]
    rw[<-hF.out];have hl:=Lx5x12x14 W.heap.size (W.alloc (.cells #[.bool x.1,.string x.2.1,.string x.2.2] 40)) (zh ((hg.out.alloc _))) (zh ((oa.out.alloc _))) (zh ((ob.out.alloc _))) (zh (ap.out)) (zh (⟨⟨(Bk.new W 40 [.bool x.1,.string x.2.1,.string x.2.2]).c0,(Bk.new W 40 [.bool x.1,.string x.2.1,.string x.2.2]).c1,(Bk.new W 40 [.bool x.1,.string x.2.1,.string x.2.2]).c2⟩,hg.out.k.size,by rw[World.size_alloc];exact Nat.lt_succ_self _⟩));rw[ae.out]at hl;exact hl
  exact AllReadyH.nil
 have Lx5x14:∀(aa:Nat) (W:World),Hid (G22 xb gb uv Aa Ab i ca cb x w W)->Hid (W.ownsRow B1 27 1 (Value.slice Aa i ca) i aj)->Hid (W.ownsRow B1 40 3 (Value.slice Ab i cb) i cbs)->Hid (∀b,(Value.slice Aa i ca).ownBlock=some b->(Value.slice Ab i cb).ownBlock≠some b)->Hid ((W.cell? ⟨aa,0,none⟩=some (.bool x.1)/\W.cell? ⟨aa,1,none⟩=some (.string x.2.1)/\W.cell? ⟨aa,2,none⟩=some (.string x.2.2))/\w.heap.size<=aa/\aa<W.heap.size)->F 10 #[true,true,true,true,true,true,true,false,false,true,true,true,false,true,true,false,false,false,false,false,false,false] (fr (.slice Aa i ca) az an av (.slice (some ⟨aa,0,none⟩) 1 1) ag) W:=by
  intro aa W hg oa ob ap ad;rw[hF.out,ae.out];dsimp only;refine wpAnyH_ready (rs:=[7,12]) (by kernel_rfl) (by simp) ?_;refine AllReadyH.cons (o:=_) rfl (fun K hK=>?_) ?_
  · go_simp;refine hK.out _ _ (Aj (hg.out.b.alloc _)) (fun _=>?_);clear hK K
    try simp only[List.setIfInBounds_toArray,List.set_cons_zero,List.set_cons_succ]
    rw[<-hF.out];have hl:=Lx5x7x14 W.heap.size aa (W.alloc (.cells #[.slice (some ⟨rb,0,none⟩) m m] 27)) (zh ((hg.out.alloc _))) (zh ((oa.out.alloc _))) (zh ((ob.out.alloc _))) (zh (ap.out)) (zh (⟨(Bk.new W 27 [.slice (some ⟨rb,0,none⟩) m m]).c0,hg.out.k.size,by rw[World.size_alloc];exact Nat.lt_succ_self _⟩)) (zh (⟨⟨(World.cell?_alloc_lt _ _ _ ad.out.2.2).trans ad.out.1.1,(World.cell?_alloc_lt _ _ _ ad.out.2.2).trans ad.out.1.2.1,(World.cell?_alloc_lt _ _ _ ad.out.2.2).trans ad.out.1.2.2⟩,ad.out.2.1,by rw[World.size_alloc];exact Nat.lt_succ_of_lt ad.out.2.2⟩));rw[ae.out]at hl;exact hl
  have x1:=hg.out.y.c2;have x9:=hg.out.y.lt;refine AllReadyH.cons (o:=_) rfl (fun K hK=>?_) ?_
  · go_simp;clear x1 x9;refine hK.out _ _ (Aj hg.out.b) (fun _=>?_);clear hK K
    try simp only[List.setIfInBounds_toArray,List.set_cons_zero,List.set_cons_succ]
    rw[<-hF.out];have hl:=Lx5x12x14 aa W hg oa ob ap ad;rw[ae.out]at hl;exact hl
  clear x1 x9;exact AllReadyH.nil
 have Lx5:∀(W:World),Hid (G22 xb gb uv Aa Ab i ca cb x w W)->Hid (W.ownsRow B1 27 1 (Value.slice Aa i ca) i aj)->Hid (W.ownsRow B1 40 3 (Value.slice Ab i cb) i cbs)->Hid (∀b,(Value.slice Aa i ca).ownBlock=some b->(Value.slice Ab i cb).ownBlock≠some b)->F 11 #[true,true,true,true,true,true,true,false,false,true,true,true,false,true,false,false,false,false,false,false,false,false] (fr (.slice Aa i ca) az an av am ag) W:=by
  intro  W hg oa ob ap;rw[hF.out,ae.out];dsimp only;refine wpAnyH_ready (rs:=[7,12,14]) (by kernel_rfl) (by simp) ?_;refine AllReadyH.cons (o:=_) rfl (fun K hK=>?_) ?_
  · go_simp;refine hK.out _ _ (Aj (hg.out.b.alloc _)) (fun _=>?_);clear hK K
    try simp only[List.setIfInBounds_toArray,List.set_cons_zero,List.set_cons_succ]
    rw[<-hF.out];have hl:=Lx5x7 W.heap.size (W.alloc (.cells #[.slice (some ⟨rb,0,none⟩) m m] 27)) (zh ((hg.out.alloc _))) (zh ((oa.out.alloc _))) (zh ((ob.out.alloc _))) (zh (ap.out)) (zh (⟨(Bk.new W 27 [.slice (some ⟨rb,0,none⟩) m m]).c0,hg.out.k.size,by rw[World.size_alloc];exact Nat.lt_succ_self _⟩));rw[ae.out]at hl;exact hl
  have x1:=hg.out.y.c2;have x9:=hg.out.y.lt;refine AllReadyH.cons (o:=_) rfl (fun K hK=>?_) ?_
  · go_simp;clear x1 x9;refine hK.out _ _ (Aj hg.out.b) (fun _=>?_);clear hK K
    try simp only[List.setIfInBounds_toArray,List.set_cons_zero,List.set_cons_succ]
    rw[<-hF.out];have hl:=Lx5x12  W hg oa ob ap;rw[ae.out]at hl;exact hl
  clear x1 x9;refine AllReadyH.cons (o:=_) rfl (fun K hK=>?_) ?_
  · go_simp;refine hK.out _ _ (Aj (hg.out.b.alloc _)) (fun _=>?_);clear hK K
    try simp only[List.setIfInBounds_toArray,List.set_cons_zero,List.set_cons_succ]
    rw[<-hF.out];have hl:=Lx5x14 W.heap.size (W.alloc (.cells #[.bool x.1,.string x.2.1,.string x.2.2] 40)) (zh ((hg.out.alloc _))) (zh ((oa.out.alloc _))) (zh ((ob.out.alloc _))) (zh (ap.out)) (zh (⟨⟨(Bk.new W 40 [.bool x.1,.string x.2.1,.string x.2.2]).c0,(Bk.new W 40 [.bool x.1,.string x.2.1,.string x.2.2]).c1,(Bk.new W 40 [.bool x.1,.string x.2.1,.string x.2.2]).c2⟩,hg.out.k.size,by rw[World.size_alloc];exact Nat.lt_succ_self _⟩));rw[ae.out]at hl;exact hl
  exact AllReadyH.nil
 have Lx7x12x14:∀(l7:Nat) (aa:Nat) (W:World),Hid (G22 xb gb uv Aa Ab i ca cb x w W)->Hid (W.ownsRow B1 27 1 (Value.slice Aa i ca) i aj)->Hid (W.ownsRow B1 40 3 (Value.slice Ab i cb) i cbs)->Hid (∀b,(Value.slice Aa i ca).ownBlock=some b->(Value.slice Ab i cb).ownBlock≠some b)->Hid (W.cell? ⟨l7,0,none⟩=some (.slice (some ⟨rb,0,none⟩) m m)/\w.heap.size<=l7/\l7<W.heap.size)->Hid ((W.cell? ⟨aa,0,none⟩=some (.bool x.1)/\W.cell? ⟨aa,1,none⟩=some (.string x.2.1)/\W.cell? ⟨aa,2,none⟩=some (.string x.2.2))/\w.heap.size<=aa/\aa<W.heap.size)->F 9 #[true,true,true,true,true,false,true,true,false,true,true,true,true,true,true,false,false,false,false,false,false,false] (fr ay (.slice (some ⟨l7,0,none⟩) 1 1) an (.slice Ab i cb) (.slice (some ⟨aa,0,none⟩) 1 1) ag) W:=by
  intro l7 aa W hg oa ob ap c7 ad;rw[hF.out,ae.out];dsimp only;refine wpAnyH_ready (rs:=[5]) (by kernel_rfl) (by simp) ?_;have x1:=hg.out.y.c1;have x9:=hg.out.y.lt;refine AllReadyH.cons (o:=_) rfl (fun K hK=>?_) ?_
  · go_simp;clear x1 x9;refine hK.out _ _ (Aj hg.out.b) (fun _=>?_);clear hK K
    try simp only[List.setIfInBounds_toArray,List.set_cons_zero,List.set_cons_succ]
    rw[<-hF.out];have hl:=Lx5x7x12x14 l7 aa W hg oa ob ap c7 ad;rw[ae.out]at hl;exact hl
  clear x1 x9;exact AllReadyH.nil
 have Lx7x12:∀(l7:Nat) (W:World),Hid (G22 xb gb uv Aa Ab i ca cb x w W)->Hid (W.ownsRow B1 27 1 (Value.slice Aa i ca) i aj)->Hid (W.ownsRow B1 40 3 (Value.slice Ab i cb) i cbs)->Hid (∀b,(Value.slice Aa i ca).ownBlock=some b->(Value.slice Ab i cb).ownBlock≠some b)->Hid (W.cell? ⟨l7,0,none⟩=some (.slice (some ⟨rb,0,none⟩) m m)/\w.heap.size<=l7/\l7<W.heap.size)->F 10 #[true,true,true,true,true,false,true,true,false,true,true,true,true,true,false,false,false,false,false,false,false,false] (fr ay (.slice (some ⟨l7,0,none⟩) 1 1) an (.slice Ab i cb) am ag) W:=by
  intro l7 W hg oa ob ap c7;rw[hF.out,ae.out];dsimp only;refine wpAnyH_ready (rs:=[5,14]) (by kernel_rfl) (by simp) ?_;have x1:=hg.out.y.c1;have x9:=hg.out.y.lt;refine AllReadyH.cons (o:=_) rfl (fun K hK=>?_) ?_
  · go_simp;clear x1 x9;refine hK.out _ _ (Aj hg.out.b) (fun _=>?_);clear hK K
    try simp only[List.setIfInBounds_toArray,List.set_cons_zero,List.set_cons_succ]
    rw[<-hF.out];have hl:=Lx5x7x12 l7 W hg oa ob ap c7;rw[ae.out]at hl;exact hl
  clear x1 x9;refine AllReadyH.cons (o:=_) rfl (fun K hK=>?_) ?_
  · go_simp;refine hK.out _ _ (Aj (hg.out.b.alloc _)) (fun _=>?_);clear hK K
    try simp only[List.setIfInBounds_toArray,List.set_cons_zero,List.set_cons_succ]
    rw[<-hF.out];have hl:=Lx7x12x14 l7 W.heap.size (W.alloc (.cells #[.bool x.1,.string x.2.1,.string x.2.2] 40)) (zh ((hg.out.alloc _))) (zh ((oa.out.alloc _))) (zh ((ob.out.alloc _))) (zh (ap.out)) (zh (⟨(World.cell?_alloc_lt _ _ _ c7.out.2.2).trans c7.out.1,c7.out.2.1,by rw[World.size_alloc];exact Nat.lt_succ_of_lt c7.out.2.2⟩)) (zh (⟨⟨(Bk.new W 40 [.bool x.1,.string x.2.1,.string x.2.2]).c0,(Bk.new W 40 [.bool x.1,.string x.2.1,.string x.2.2]).c1,(Bk.new W 40 [.bool x.1,.string x.2.1,.string x.2.2]).c2⟩,hg.out.k.size,by rw[World.size_alloc];exact Nat.lt_succ_self _⟩));rw[ae.out]at hl;exact hl
  exact AllReadyH.nil
 have Lx7x14:∀(l7:Nat) (aa:Nat) (W:World),Hid (G22 xb gb uv Aa Ab i ca cb x w W)->Hid (W.ownsRow B1 27 1 (Value.slice Aa i ca) i aj)->Hid (W.ownsRow B1 40 3 (Value.slice Ab i cb) i cbs)->Hid (∀b,(Value.slice Aa i ca).ownBlock=some b->(Value.slice Ab i cb).ownBlock≠some b)->Hid (W.cell? ⟨l7,0,none⟩=some (.slice (some ⟨rb,0,none⟩) m m)/\w.heap.size<=l7/\l7<W.heap.size)->Hid ((W.cell? ⟨aa,0,none⟩=some (.bool x.1)/\W.cell? ⟨aa,1,none⟩=some (.string x.2.1)/\W.cell? ⟨aa,2,none⟩=some (.string x.2.2))/\w.heap.size<=aa/\aa<W.heap.size)->F 10 #[true,true,true,true,true,false,true,true,false,true,true,true,false,true,true,false,false,false,false,false,false,false] (fr ay (.slice (some ⟨l7,0,none⟩) 1 1) an av (.slice (some ⟨aa,0,none⟩) 1 1) ag) W:=by
  intro l7 aa W hg oa ob ap c7 ad;rw[hF.out,ae.out];dsimp only;refine wpAnyH_ready (rs:=[5,12]) (by kernel_rfl) (by simp) ?_;have x1:=hg.out.y.c1;have x9:=hg.out.y.lt;refine AllReadyH.cons (o:=_) rfl (fun K hK=>?_) ?_
  · go_simp;clear x1 x9;refine hK.out _ _ (Aj hg.out.b) (fun _=>?_);clear hK K
    try simp only[List.setIfInBounds_toArray,List.set_cons_zero,List.set_cons_succ]
    rw[<-hF.out];have hl:=Lx5x7x14 l7 aa W hg oa ob ap c7 ad;rw[ae.out]at hl;exact hl
  clear x1 x9;have x1:=hg.out.y.c2;have x9:=hg.out.y.lt;refine AllReadyH.cons (o:=_) rfl (fun K hK=>?_) ?_
  · go_simp;clear x1 x9;refine hK.out _ _ (Aj hg.out.b) (fun _=>?_);clear hK K
    try simp only[List.setIfInBounds_toArray,List.set_cons_zero,List.set_cons_succ]
    rw[<-hF.out];have hl:=Lx7x12x14 l7 aa W hg oa ob ap c7 ad;rw[ae.out]at hl;exact hl
  clear x1 x9;exact AllReadyH.nil
 have Lx7:∀(l7:Nat) (W:World),Hid (G22 xb gb uv Aa Ab i ca cb x w W)->Hid (W.ownsRow B1 27 1 (Value.slice Aa i ca) i aj)->Hid (W.ownsRow B1 40 3 (Value.slice Ab i cb) i cbs)->Hid (∀b,(Value.slice Aa i ca).ownBlock=some b->(Value.slice Ab i cb).ownBlock≠some b)->Hid (W.cell? ⟨l7,0,none⟩=some (.slice (some ⟨rb,0,none⟩) m m)/\w.heap.size<=l7/\l7<W.heap.size)->F 11 #[true,true,true,true,true,false,true,true,false,true,true,true,false,true,false,false,false,false,false,false,false,false] (fr ay (.slice (some ⟨l7,0,none⟩) 1 1) an av am ag) W:=by
  intro l7 W hg oa ob ap c7;rw[hF.out,ae.out];dsimp only;refine wpAnyH_ready (rs:=[5,12,14]) (by kernel_rfl) (by simp) ?_;have x1:=hg.out.y.c1;have x9:=hg.out.y.lt;refine AllReadyH.cons (o:=_) rfl (fun K hK=>?_) ?_
  · go_simp;clear x1 x9;refine hK.out _ _ (Aj hg.out.b) (fun _=>?_);clear hK K
    try simp only[List.setIfInBounds_toArray,List.set_cons_zero,List.set_cons_succ]
    rw[<-hF.out];have hl:=Lx5x7 l7 W hg oa ob ap c7;rw[ae.out]at hl;exact hl
  clear x1 x9;have x1:=hg.out.y.c2;have x9:=hg.out.y.lt;refine AllReadyH.cons (o:=_) rfl (fun K hK=>?_) ?_
  · go_simp;clear x1 x9;refine hK.out _ _ (Aj hg.out.b) (fun _=>?_);clear hK K
    try simp only[List.setIfInBounds_toArray,List.set_cons_zero,List.set_cons_succ]
    rw[<-hF.out];have hl:=Lx7x12 l7 W hg oa ob ap c7;rw[ae.out]at hl;exact hl
  clear x1 x9;refine AllReadyH.cons (o:=_) rfl (fun K hK=>?_) ?_
  · go_simp;refine hK.out _ _ (Aj (hg.out.b.alloc _)) (fun _=>?_);clear hK K
    try simp only[List.setIfInBounds_toArray,List.set_cons_zero,List.set_cons_succ]
    rw[<-hF.out];have hl:=Lx7x14 l7 W.heap.size (W.alloc (.cells #[.bool x.1,.string x.2.1,.string x.2.2] 40)) (zh ((hg.out.alloc _))) (zh ((oa.out.alloc _))) (zh ((ob.out.alloc _))) (zh (ap.out)) (zh (⟨(World.cell?_alloc_lt _ _ _ c7.out.2.2).trans c7.out.1,c7.out.2.1,by rw[World.size_alloc];exact Nat.lt_succ_of_lt c7.out.2.2⟩)) (zh (⟨⟨(Bk.new W 40 [.bool x.1,.string x.2.1,.string x.2.2]).c0,(Bk.new W 40 [.bool x.1,.string x.2.1,.string x.2.2]).c1,(Bk.new W 40 [.bool x.1,.string x.2.1,.string x.2.2]).c2⟩,hg.out.k.size,by rw[World.size_alloc];exact Nat.lt_succ_self _⟩));rw[ae.out]at hl;exact hl
  exact AllReadyH.nil
 have Lx12x14:∀(aa:Nat) (W:World),Hid (G22 xb gb uv Aa Ab i ca cb x w W)->Hid (W.ownsRow B1 27 1 (Value.slice Aa i ca) i aj)->Hid (W.ownsRow B1 40 3 (Value.slice Ab i cb) i cbs)->Hid (∀b,(Value.slice Aa i ca).ownBlock=some b->(Value.slice Ab i cb).ownBlock≠some b)->Hid ((W.cell? ⟨aa,0,none⟩=some (.bool x.1)/\W.cell? ⟨aa,1,none⟩=some (.string x.2.1)/\W.cell? ⟨aa,2,none⟩=some (.string x.2.2))/\w.heap.size<=aa/\aa<W.heap.size)->F 10 #[true,true,true,true,true,false,true,false,false,true,true,true,true,true,true,false,false,false,false,false,false,false] (fr ay az an (.slice Ab i cb) (.slice (some ⟨aa,0,none⟩) 1 1) ag) W:=by
  intro aa W hg oa ob ap ad;rw[hF.out,ae.out];dsimp only;refine wpAnyH_ready (rs:=[5,7]) (by kernel_rfl) (by simp) ?_;have x1:=hg.out.y.c1;have x9:=hg.out.y.lt;refine AllReadyH.cons (o:=_) rfl (fun K hK=>?_) ?_
  · go_simp;clear x1 x9;refine hK.out _ _ (Aj hg.out.b) (fun _=>?_);clear hK K
    try simp only[List.setIfInBounds_toArray,List.set_cons_zero,List.set_cons_succ]
    rw[<-hF.out];have hl:=Lx5x12x14 aa W hg oa ob ap ad;rw[ae.out]at hl;exact hl
  clear x1 x9;refine AllReadyH.cons (o:=_) rfl (fun K hK=>?_) ?_
  · go_simp;refine hK.out _ _ (Aj (hg.out.b.alloc _)) (fun _=>?_);clear hK K
    try simp only[List.setIfInBounds_toArray,List.set_cons_zero,List.set_cons_succ]
    rw[<-hF.out];have hl:=Lx7x12x14 W.heap.size aa (W.alloc (.cells #[.slice (some ⟨rb,0,none⟩) m m] 27)) (zh ((hg.out.alloc _))) (zh ((oa.out.alloc _))) (zh ((ob.out.alloc _))) (zh (ap.out)) (zh (⟨(Bk.new W 27 [.slice (some ⟨rb,0,none⟩) m m]).c0,hg.out.k.size,by rw[World.size_alloc];exact Nat.lt_succ_self _⟩)) (zh (⟨⟨(World.cell?_alloc_lt _ _ _ ad.out.2.2).trans ad.out.1.1,(World.cell?_alloc_lt _ _ _ ad.out.2.2).trans ad.out.1.2.1,(World.cell?_alloc_lt _ _ _ ad.out.2.2).trans ad.out.1.2.2⟩,ad.out.2.1,by rw[World.size_alloc];exact Nat.lt_succ_of_lt ad.out.2.2⟩));rw[ae.out]at hl;exact hl
  exact AllReadyH.nil
 have Lx12:∀(W:World),Hid (G22 xb gb uv Aa Ab i ca cb x w W)->Hid (W.ownsRow B1 27 1 (Value.slice Aa i ca) i aj)->Hid (W.ownsRow B1 40 3 (Value.slice Ab i cb) i cbs)->Hid (∀b,(Value.slice Aa i ca).ownBlock=some b->(Value.slice Ab i cb).ownBlock≠some b)->F 11 #[true,true,true,true,true,false,true,false,false,true,true,true,true,true,false,false,false,false,false,false,false,false] (fr ay az an (.slice Ab i cb) am ag) W:=by
  intro  W hg oa ob ap;rw[hF.out,ae.out];dsimp only;refine wpAnyH_ready (rs:=[5,7,14]) (by kernel_rfl) (by simp) ?_;have x1:=hg.out.y.c1;have x9:=hg.out.y.lt;refine AllReadyH.cons (o:=_) rfl (fun K hK=>?_) ?_
  · go_simp;clear x1 x9;refine hK.out _ _ (Aj hg.out.b) (fun _=>?_);clear hK K
    try simp only[List.setIfInBounds_toArray,List.set_cons_zero,List.set_cons_succ]
    rw[<-hF.out];have hl:=Lx5x12  W hg oa ob ap;rw[ae.out]at hl;exact hl
  clear x1 x9;refine AllReadyH.cons (o:=_) rfl (fun K hK=>?_) ?_
  · go_simp;refine hK.out _ _ (Aj (hg.out.b.alloc _)) (fun _=>?_);clear hK K
    try simp only[List.setIfInBounds_toArray,List.set_cons_zero,List.set_cons_succ]
    rw[<-hF.out];have hl:=Lx7x12 W.heap.size (W.alloc (.cells #[.slice (some ⟨rb,0,none⟩) m m] 27)) (zh ((hg.out.alloc _))) (zh ((oa.out.alloc _))) (zh ((ob.out.alloc _))) (zh (ap.out)) (zh (⟨(Bk.new W 27 [.slice (some ⟨rb,0,none⟩) m m]).c0,hg.out.k.size,by rw[World.size_alloc];exact Nat.lt_succ_self _⟩));rw[ae.out]at hl;exact hl
  refine AllReadyH.cons (o:=_) rfl (fun K hK=>?_) ?_
  · go_simp;refine hK.out _ _ (Aj (hg.out.b.alloc _)) (fun _=>?_);clear hK K
    try simp only[List.setIfInBounds_toArray,List.set_cons_zero,List.set_cons_succ]
    rw[<-hF.out];have hl:=Lx12x14 W.heap.size (W.alloc (.cells #[.bool x.1,.string x.2.1,.string x.2.2] 40)) (zh ((hg.out.alloc _))) (zh ((oa.out.alloc _))) (zh ((ob.out.alloc _))) (zh (ap.out)) (zh (⟨⟨(Bk.new W 40 [.bool x.1,.string x.2.1,.string x.2.2]).c0,(Bk.new W 40 [.bool x.1,.string x.2.1,.string x.2.2]).c1,(Bk.new W 40 [.bool x.1,.string x.2.1,.string x.2.2]).c2⟩,hg.out.k.size,by rw[World.size_alloc];exact Nat.lt_succ_self _⟩));rw[ae.out]at hl;exact hl
  exact AllReadyH.nil
 have Lx14:∀(aa:Nat) (W:World),Hid (G22 xb gb uv Aa Ab i ca cb x w W)->Hid (W.ownsRow B1 27 1 (Value.slice Aa i ca) i aj)->Hid (W.ownsRow B1 40 3 (Value.slice Ab i cb) i cbs)->Hid (∀b,(Value.slice Aa i ca).ownBlock=some b->(Value.slice Ab i cb).ownBlock≠some b)->Hid ((W.cell? ⟨aa,0,none⟩=some (.bool x.1)/\W.cell? ⟨aa,1,none⟩=some (.string x.2.1)/\W.cell? ⟨aa,2,none⟩=some (.string x.2.2))/\w.heap.size<=aa/\aa<W.heap.size)->F 11 #[true,true,true,true,true,false,true,false,false,true,true,true,false,true,true,false,false,false,false,false,false,false] (fr ay az an av (.slice (some ⟨aa,0,none⟩) 1 1) ag) W:=by
  intro aa W hg oa ob ap ad;rw[hF.out,ae.out];dsimp only;refine wpAnyH_ready (rs:=[5,7,12]) (by kernel_rfl) (by simp) ?_;have x1:=hg.out.y.c1;have x9:=hg.out.y.lt;refine AllReadyH.cons (o:=_) rfl (fun K hK=>?_) ?_
  · go_simp;clear x1 x9;refine hK.out _ _ (Aj hg.out.b) (fun _=>?_);clear hK K
    try simp only[List.setIfInBounds_toArray,List.set_cons_zero,List.set_cons_succ]
    rw[<-hF.out];have hl:=Lx5x14 aa W hg oa ob ap ad;rw[ae.out]at hl;exact hl
  clear x1 x9;refine AllReadyH.cons (o:=_) rfl (fun K hK=>?_) ?_
  · go_simp;refine hK.out _ _ (Aj (hg.out.b.alloc _)) (fun _=>?_);clear hK K
    try simp only[List.setIfInBounds_toArray,List.set_cons_zero,List.set_cons_succ]
    rw[<-hF.out];have hl:=Lx7x14 W.heap.size aa (W.alloc (.cells #[.slice (some ⟨rb,0,none⟩) m m] 27)) (zh ((hg.out.alloc _))) (zh ((oa.out.alloc _))) (zh ((ob.out.alloc _))) (zh (ap.out)) (zh (⟨(Bk.new W 27 [.slice (some ⟨rb,0,none⟩) m m]).c0,hg.out.k.size,by rw[World.size_alloc];exact Nat.lt_succ_self _⟩)) (zh (⟨⟨(World.cell?_alloc_lt _ _ _ ad.out.2.2).trans ad.out.1.1,(World.cell?_alloc_lt _ _ _ ad.out.2.2).trans ad.out.1.2.1,(World.cell?_alloc_lt _ _ _ ad.out.2.2).trans ad.out.1.2.2⟩,ad.out.2.1,by rw[World.size_alloc];exact Nat.lt_succ_of_lt ad.out.2.2⟩));rw[ae.out]at hl;exact hl
  have x1:=hg.out.y.c2;have x9:=hg.out.y.lt;refine AllReadyH.cons (o:=_) rfl (fun K hK=>?_) ?_
  · go_simp;clear x1 x9;refine hK.out _ _ (Aj hg.out.b) (fun _=>?_);clear hK K
    try simp only[List.setIfInBounds_toArray,List.set_cons_zero,List.set_cons_succ]
    rw[<-hF.out];have hl:=Lx12x14 aa W hg oa ob ap ad;rw[ae.out]at hl;exact hl
  clear x1 x9;exact AllReadyH.nil
 have L:∀(W:World),Hid (G22 xb gb uv Aa Ab i ca cb x w W)->Hid (W.ownsRow B1 27 1 (Value.slice Aa i ca) i aj)->Hid (W.ownsRow B1 40 3 (Value.slice Ab i cb) i cbs)->Hid (∀b,(Value.slice Aa i ca).ownBlock=some b->(Value.slice Ab i cb).ownBlock≠some b)->F 12 #[true,true,true,true,true,false,true,false,false,true,true,true,false,true,false,false,false,false,false,false,false,false] (fr ay az an av am ag) W:=by
  intro  W hg oa ob ap;rw[hF.out,ae.out];dsimp only;refine wpAnyH_ready (rs:=[5,7,12,14]) (by kernel_rfl) (by simp) ?_;have x1:=hg.out.y.c1;have x9:=hg.out.y.lt;refine AllReadyH.cons (o:=_) rfl (fun K hK=>?_) ?_
  · go_simp;clear x1 x9;refine hK.out _ _ (Aj hg.out.b) (fun _=>?_);clear hK K
    try simp only[List.setIfInBounds_toArray,List.set_cons_zero,List.set_cons_succ]
    rw[<-hF.out];have hl:=Lx5  W hg oa ob ap;rw[ae.out]at hl;exact hl
  clear x1 x9;refine AllReadyH.cons (o:=_) rfl (fun K hK=>?_) ?_
  · go_simp;refine hK.out _ _ (Aj (hg.out.b.alloc _)) (fun _=>?_);clear hK K
    try simp only[List.setIfInBounds_toArray,List.set_cons_zero,List.set_cons_succ]
    rw[<-hF.out];have hl:=Lx7 W.heap.size (W.alloc (.cells #[.slice (some ⟨rb,0,none⟩) m m] 27)) (zh ((hg.out.alloc _))) (zh ((oa.out.alloc _))) (zh ((ob.out.alloc _))) (zh (ap.out)) (zh (⟨(Bk.new W 27 [.slice (some ⟨rb,0,none⟩) m m]).c0,hg.out.k.size,by rw[World.size_alloc];exact Nat.lt_succ_self _⟩));rw[ae.out]at hl;exact hl
  have x1:=hg.out.y.c2;have x9:=hg.out.y.lt;refine AllReadyH.cons (o:=_) rfl (fun K hK=>?_) ?_
  · go_simp;clear x1 x9;refine hK.out _ _ (Aj hg.out.b) (fun _=>?_);clear hK K
    try simp only[List.setIfInBounds_toArray,List.set_cons_zero,List.set_cons_succ]
    rw[<-hF.out];have hl:=Lx12  W hg oa ob ap;rw[ae.out]at hl;exact hl
  clear x1 x9;refine AllReadyH.cons (o:=_) rfl (fun K hK=>?_) ?_
  · go_simp;refine hK.out _ _ (Aj (hg.out.b.alloc _)) (fun _=>?_);clear hK K
    try simp only[List.setIfInBounds_toArray,List.set_cons_zero,List.set_cons_succ]
    rw[<-hF.out];have hl:=Lx14 W.heap.size (W.alloc (.cells #[.bool x.1,.string x.2.1,.string x.2.2] 40)) (zh ((hg.out.alloc _))) (zh ((oa.out.alloc _))) (zh ((ob.out.alloc _))) (zh (ap.out)) (zh (⟨⟨(Bk.new W 40 [.bool x.1,.string x.2.1,.string x.2.2]).c0,(Bk.new W 40 [.bool x.1,.string x.2.1,.string x.2.2]).c1,(Bk.new W 40 [.bool x.1,.string x.2.1,.string x.2.2]).c2⟩,hg.out.k.size,by rw[World.size_alloc];exact Nat.lt_succ_self _⟩));rw[ae.out]at hl;exact hl
  exact AllReadyH.nil
 have hl:=L w.drew cn cw cy ap;rw[ae.out]at hl;exact Vn (by kernel_rfl) (by kernel_rfl) (by kernel_rfl) hl
end Sh
end
section
namespace Sh
open Nt Ci
theorem GR (p:Nat) (f:Nat->Rat) (l m:List Lp):An p f (l++m)=An p f l+An p f m:=by
 induction l with
 | nil=>show An p f m=0+An p f m;grind
 | cons x l ih =>
   rw[List.cons_append]
   show (if x.1=p then x.2.2*f x.2.1 else 0)+An p f (l++m)=(if x.1=p then x.2.2*f x.2.1 else 0)+An p f l+An p f m
   rw[ih,Rat.add_assoc]
theorem CM {p:Nat} {f:Nat->Rat} {l:List Lp} {k:Nat} (h:k<l.length):An p f (l.take (k+1))=An p f (l.take k)+if l[k].1=p then l[k].2.2*f l[k].2.1 else 0:=by
 rw[List.take_succ_eq_append_getElem h,GR]
 congr 1
 show (if l[k].1=p then l[k].2.2*f l[k].2.1 else 0)+0=_
 exact Rat.add_zero _
theorem JS {p:Nat} {f:Nat->Rat} {l:List Lp} (hp:∀x,x∈l->0<x.2.2) (hf:∀x,x∈l->0<=f x.2.1) (k:Nat):An p f (l.take k)<=An p f l:=by
 have h:=GR p f (l.take k) (l.drop k);rw[List.take_append_drop]at h;have h2:=BU (p:=p) (f:=f) (L:=l.drop k) (fun x hx=>hp x (List.mem_of_mem_drop hx)) fun x hx _=>hf x (List.mem_of_mem_drop hx);grind
theorem Caps.take {n:Nat} {L:List Lp} (h:Caps n L) (k:Nat):Caps n (L.take k):=by
 refine⟨fun x hx=>h.lt x (List.mem_of_mem_take hx),fun x hx=>h.whole x (List.mem_of_mem_take hx),fun x hx=>h.pos x (List.mem_of_mem_take hx),fun p=>?_⟩;have h1:=JS (p:=p) (f:=fun _=>1) h.pos (fun _ _=>by decide) k;have h2:=h.le1 p;grind
theorem TU {n:Nat} {L:List Lp} (h:Caps n L) (p q:Nat) (b:Bool):Fit 6000 ((if b=true then 1 else 0)-An p (fun h=>if h=q then 1 else 0) L):=by
 have h0:=BU (p:=p) (f:=fun h=>if h=q then 1 else 0) h.pos fun x _ _=>by split<;>decide
 have h1:An p (fun h=>if h=q then 1 else 0) L<=1:=h.le_of (by decide) fun x _ _=>by split<;>decide
 have h2:=h.int_sum (p:=p) (f:=fun h=>if h=q then 1 else 0) (D:=1) fun x _ _=>by
  split
  · exact IsI.one.mul IsI.one
  · exact IsI.one.mul IsI.zero
 refine⟨?_,?_,6000,by omega,Nat.le_refl _,?_⟩
 · split<;>grind
 · split<;>grind
 · have e:((6000:Nat):Rat)*((if b=true then 1 else 0)-An p (fun h=>if h=q then 1 else 0) L)=(if b=true then 1 else 0)*6000+-(6000*1*An p (fun h=>if h=q then 1 else 0) L):=by
    rw[show ((6000:Nat):Rat)=6000 from rfl];grind
   rw[e];refine IsI.add ?_ h2.neg
   split
   · exact IsI.one.mul (IsI.nat 6000)
   · exact IsI.zero.mul (IsI.nat 6000)
theorem Pn {n D:Nat} {L:List Lp} (h:Caps n L) (p:Nat) {f:Nat->Rat} (hD:0<D) (hf:∀q,0<=f q/\f q<=1) (hi:∀q,IsI ((D:Rat)*f q)):Fit (6000*D) (An p f L):=by
 have h0:=BU (p:=p) (f:=f) h.pos fun x _ _=>(hf x.2.1).1;have h1:An p f L<=1:=h.le_of (by decide) fun x _ _=>(hf x.2.1).2;have h2:=h.int_sum (p:=p) (f:=f) (D:=(D:Rat)) fun x _ _=>hi x.2.1;refine⟨by grind,h1,6000*D,Nat.mul_pos (by omega) hD,Nat.le_refl _,?_⟩;rw[Rat.natCast_mul];exact h2
end Sh
end
section
namespace Sh
open Nt Ci
theorem Sys.congr {n c D:Nat} {A B:Mx} {v:Nat->Rat} (h:Sys n c D A v) (e:∀i j,i<n->j<=n->B i j=A i j):Sys n c D B v:=by
 obtain⟨⟨a1,a2,a3,a4,a5,a6⟩,h2,h3,h4,h5⟩:=h;refine⟨⟨fun i hi=>?_,fun i j hi hj hn=>?_,fun i hi=>?_,fun i hi=>?_,fun i hi=>?_,a6⟩,h2,h3,fun i j hi hj=>?_,fun i hi=>?_⟩
 · rw[e i i hi (by omega)];exact a1 i hi
 · rw[e i j hi (by omega)];exact a2 i j hi hj hn
 · rw[e i n hi (Nat.le_refl _)];exact a3 i hi
 · rw[e i n hi (Nat.le_refl _),Az (f:=B i) (g:=A i) fun j hj=>e i j hi (by omega)];exact a4 i hi
 · rw[Az (g:=fun j=>A i j*v j) fun j hj=>by rw[e i j hi (by omega)]];exact a5 i hi
 · rw[e i j hi (by omega)];exact h4 i j hi hj
 · rw[e i n hi (Nat.le_refl _)];exact h5 i hi
def Dc (L:List Lp) (u:List Nat) (val:Nat->Rat):List (List Raw):=(List.range u.length).map fun i=>AN u.length (Bh L u val i)
def Fj (L:List Lp) (u:List Nat) (val:Nat->Rat):List Raw:=AN u.length fun i=>Bh L u val i u.length
theorem Jk {n:Nat} {f:Nat->Rat} {i:Nat} (h:i<n) (d:Raw):(AN n f).getD i d=rq (f i):=by
 rw[Ev (by rw[Ag];exact h),BB]
theorem MI {L:List Lp} {u:List Nat} {val:Nat->Rat} {i:Nat} (h:i<u.length):(Dc L u val).getD i []=AN u.length (Bh L u val i):=by
 unfold Dc;rw[Ev (by simpa using h)];simp
theorem Vo {x:Rat} {B:Nat} (h:Fit B x) (hB:B<L1):OkQ x:=(Cs h hB).ok
theorem UE:6000^17<L1:=Nat.lt_of_le_of_lt (Nat.pow_le_pow_right (by omega) (by omega)) KX
theorem Lc {n D:Nat} {L:List Lp} {F done u:List Nat} {val:Nat->Rat} (hL:Caps n L) (hi:Inv L F done val D) (hx:Nxt L F done u) (ae:done.length+u.length<=16) (h8:u.length<=8) :
 DR (Dc L u val) (Fj L u val)=.ok (AN u.length fun i=>C5 SQ L u val (u.getD i 0)):=by
 have hs:=hx.sys hL hi
 have aa:∀i j,i<u.length->j<=u.length->OkQ (Bh L u val i j):=fun i j h1 h2=>by
  have:=hs.fit (Mad.start u.length _) hs.shs (Nat.zero_le _) h1 h2;refine Vo (this.mono ?_) UE
  calc 6000^(u.length+1)*D<=6000^(u.length+1)*6000^done.length:=Nat.mul_le_mul_left _ hi.dle
   _=6000^(u.length+1+done.length):=(Nat.pow_add _ _ _).symm
   _<=6000^17:=Nat.pow_le_pow_right (by omega) (by omega)
 have d:(Fj L u val).length=u.length:=Ag _ _;have ad:(Dc L u val).length=u.length:=by unfold Dc;simp
 have hb:allV (Fj L u val)=true:=EG.2 fun i h=>by
  have e:(Fj L u val)[i]=rq (Bh L u val i u.length):=BB u.length (fun i=>Bh L u val i u.length) i h;rw[e];exact NI (aa i _ (by rwa [d]at h) (Nat.le_refl _))
 have ha:OY (Fj L u val).length (Dc L u val)=true:=KL.2 fun i h=>by
  rw[ad]at h;have e:(Dc L u val)[i]'(by rw[ad];exact h)=AN u.length (Bh L u val i):=by unfold Dc;simp
  rw[e,d];refine⟨Ag _ _,EG.2 fun j hj=>?_⟩;rw[BB];rw[Ag]at hj;exact NI (aa i j h (Nat.le_of_lt hj))
 have hM:∀i j,i<u.length->j<=u.length->GZ (Dc L u val) (Fj L u val) i j=Bh L u val i j:=fun i j h1 h2=>by
  unfold GZ;rw[d]
  by_cases e:j=u.length
  · rw[if_pos e,e];unfold Fj;rw[Jk h1,H9]
  · rw[if_neg e,MI h1,Jk (by omega),H9]
 have hS:∀x,Fit ((6000^(u.length+1)*D)*(6000^(u.length+1)*D)) x->SQ x=true:=fun x h=>ME x (h.mono (Jf hi.dle ae));obtain⟨M,m1,m2,_⟩:=(hs.congr hM).result (S:=SQ) hS;obtain⟨N,n1,n2,_⟩:=hs.result (S:=SQ) hS;have hv:C5 SQ L u val=fun p=>if p∈u then N (u.idxOf p) u.length else val p:=by unfold C5;rw[n1]
 have af:∀i,i<u.length->M i u.length=N i u.length:=by
  have h1:Sol u.length (GZ (Dc L u val) (Fj L u val)) (fun i=>N i u.length) (fun i=>GZ (Dc L u val) (Fj L u val) i u.length):=fun i a=>by
   have h2:(Ao u.length fun j=>Bh L u val i j*N j u.length)=Bh L u val i u.length:=(n2 (fun i=>N i u.length)).2 (fun _ _=>rfl) i a
   show (Ao u.length fun j=>GZ (Dc L u val) (Fj L u val) i j*N j u.length)=GZ (Dc L u val) (Fj L u val) i u.length
   rw[hM i _ a (Nat.le_refl _),<-h2];exact Az fun j hj=>by rw[hM i j a (Nat.le_of_lt hj)]
  exact fun i a=>((m2 _).1 h1 i a).symm
 unfold DR;rw[if_pos ⟨ad.trans d.symm,hb,ha⟩,if_pos (by rw[d];exact h8),d,m1]
 show Except.ok (AN u.length fun i=>M i u.length)=_
 congr 1
 apply Mw;intro i a;rw[af i a,hv];dsimp only;rw[if_pos (EK a),FT hx.nodup a]
theorem Ready.nodup {L:List Lp} {F:List Nat}:∀{us:List (List Nat)} {done:List Nat},Ready L F done us->done.Nodup->(done++us.flatten).Nodup:=by
 intro us
 induction us with
 | nil=>intro done _ h;simpa using h
 | cons u us ih =>
   intro done h hd;rw[List.flatten_cons,<-List.append_assoc];refine ih h.2 (List.nodup_append.2 ⟨hd,h.1.nodup,fun a ha b hb e=>?_⟩);subst e;exact h.1.new a hb ha
theorem Ready.lt {n:Nat} {F:List Nat} {E:List (Nat×Nat)}:∀p,p∈(BV n E F).flatten->p<n:=by
 intro p hp;obtain⟨u,hu,hp⟩:=List.mem_flatten.1 hp;unfold BV at hu;obtain⟨c,hc,rfl⟩:=List.mem_map.1 hu;have h1:=(Ez.1 hp).1;unfold As at hc;obtain⟨q,_,rfl⟩:=List.mem_map.1 hc;exact(CR.1 h1).1
theorem Ih {n:Nat} {L:List Lp} {F:List Nat} (hL:Caps n L):(BV n (Am L) F).flatten.length<=n:=by
 have h:=(G0 (F:=F) hL.inN).nodup List.nodup_nil;rw[List.nil_append]at h;exact Dj n _ h Ready.lt
noncomputable def BI (n:Nat) (E:List (Nat×Nat)) (F:List Nat):Bool:=(BV n E F).any (fun u=>decide (8<u.length))||decide (16<(BV n E F).flatten.length)
theorem RP {n:Nat} {L:List Lp} {F:List Nat} (hL:Caps n L) (hn:n<=8):BI n (Am L) F=false:=by
 have h:=Ih (F:=F) hL;unfold BI;rw[Bool.or_eq_false_iff,List.any_eq_false];refine⟨fun u hu=>?_,decide_eq_false (by omega)⟩;have:u.length<=(BV n (Am L) F).flatten.length:=(List.sublist_flatten_of_mem hu).length_le;simp only[decide_eq_true_eq];omega
theorem MJ {n:Nat} {E:List (Nat×Nat)} {F:List Nat} (h:BI n E F=false):(∀u,u∈BV n E F->u.length<=8)/\(BV n E F).flatten.length<=16:=by
 unfold BI at h;rw[Bool.or_eq_false_iff,List.any_eq_false]at h;refine⟨fun u hu=>?_,by have:=of_decide_eq_false h.2;omega⟩;have:=h.1 u hu;simp only[decide_eq_true_eq]at this;omega
end Sh
end
section
namespace Sh
open Nt Ci
section
variable {n:Nat} {L:List Lp} {u:List Nat} {val:Nat->Rat} {i k j:Nat}
def Ce (L:List Lp) (u:List Nat) (i k j:Nat):Rat:=(if i=j then 1 else 0)-An (u.getD i 0) (fun h=>if h=u.getD j 0 then 1 else 0) (L.take k)
def BC (L:List Lp) (u:List Nat) (val:Nat->Rat) (i k:Nat):Rat:=An (u.getD i 0) (fun h=>if h∈u then 0 else val h) (L.take k)
theorem Po:Ce L u i 0 j=if i=j then 1 else 0:=by
 unfold Ce
 show _-(0:Rat)=_
 grind
theorem Pp:BC L u val i 0=0:=rfl
theorem Ld (hj:j<u.length):Ce L u i L.length j=Bh L u val i j:=by
 unfold Ce Bh;dsimp only;rw[List.take_length];have e:¬j=u.length:=by omega
 rw[if_neg e]
theorem Le:BC L u val i L.length=Bh L u val i u.length:=by
 unfold BC Bh;dsimp only;rw[List.take_length,if_pos rfl]
theorem RQ (hk:k<L.length) (h:L[k].1≠u.getD i 0):(∀j,Ce L u i (k+1) j=Ce L u i k j)/\BC L u val i (k+1)=BC L u val i k:=by
 refine⟨fun j=>?_,?_⟩
 · unfold Ce;rw[CM hk,if_neg h,Rat.add_zero]
 · unfold BC;rw[CM hk,if_neg h,Rat.add_zero]
theorem Vp (hu:u.Nodup) (hk:k<L.length) (h:L[k].1=u.getD i 0) {c:Nat} (hc:c<u.length) (hh:L[k].2.1=u.getD c 0) :
 (∀j,j<u.length->Ce L u i (k+1) j=if j=c then Ce L u i k c+-1*L[k].2.2 else Ce L u i k j)/\BC L u val i (k+1)=BC L u val i k:=by
 refine⟨fun j hj=>?_,?_⟩
 · unfold Ce;rw[CM hk,if_pos h,hh]
   by_cases e:j=c
   · subst e;have e1:(if u.getD j 0=u.getD j 0 then (1:Rat) else 0)=1:=if_pos rfl;rw[e1,if_pos (rfl:j=j)];grind
   · have e1:(if u.getD c 0=u.getD j 0 then (1:Rat) else 0)=0:=if_neg fun e2=>by
      have:=FT hu hj;rw[<-e2,FT hu hc]at this;exact e this.symm
     rw[e1,if_neg e];grind
 · unfold BC;rw[CM hk,if_pos h,if_pos (by rw[hh];exact EK hc)];grind
theorem Hi (hk:k<L.length) (h:L[k].1=u.getD i 0) (hh:L[k].2.1∉u) :
 (∀j,j<u.length->Ce L u i (k+1) j=Ce L u i k j)/\BC L u val i (k+1)=BC L u val i k+L[k].2.2*val L[k].2.1:=by
 refine⟨fun j hj=>?_,?_⟩
 · unfold Ce;have e1:(if L[k].2.1=u.getD j 0 then (1:Rat) else 0)=0:=if_neg fun e=>hh (by rw[e];exact EK hj);rw[CM hk,if_pos h,e1];grind
 · unfold BC;rw[CM hk,if_pos h,if_neg hh]
theorem Ii (hL:Caps n L):ShortQ (Ce L u i k j):=by
 have:=TU (hL.take k) (u.getD i 0) (u.getD j 0) (decide (i=j));unfold Ce;simp only[decide_eq_true_eq]at this;exact Cs this (Nat.lt_of_le_of_lt (by have:6000^1<=6000^34:=Nat.pow_le_pow_right (by omega) (by omega);omega) KX)
theorem RR {D:Nat} (h:D<=6000^16):6000*D<L1:=by
 refine Nat.lt_of_le_of_lt ?_ UE
 calc 6000*D<=6000*6000^16:=Nat.mul_le_mul_left _ h
  _=6000^17:=by rw[Nat.pow_succ 6000 16,Nat.mul_comm]
structure Vals (val:Nat->Rat) (D:Nat):Prop where
 rng:∀p,0<=val p/\val p<=1
 dp:0<D
 dle:D<=6000^16
 whole:∀p,IsI ((D:Rat)*val p)
theorem Vals.fit {D:Nat} (h:Vals val D) (p:Nat):Fit D (val p):=⟨by have:=(h.rng p).1;grind,(h.rng p).2,D,h.dp,Nat.le_refl _,h.whole p⟩
theorem Vals.short {D:Nat} (h:Vals val D) (p:Nat):ShortQ (val p):=Cs (h.fit p) (Nat.lt_of_le_of_lt h.dle (Nat.lt_of_le_of_lt (Nat.pow_le_pow_right (by omega) (by omega)) KX))
theorem Ij {D:Nat} (hL:Caps n L) (h:Vals val D):ShortQ (BC L u val i k):=by
 have:=Pn (hL.take k) (u.getD i 0) (f:=fun q=>if q∈u then 0 else val q) h.dp (fun q=>by
  split
  · constructor<;>decide
  · exact h.rng q) fun q=>by
  split
  · rw[Rat.mul_zero];exact IsI.zero
  · exact h.whole q
 exact Cs this (RR h.dle)
theorem FW (hL:Caps n L) (hk:k<L.length):Fit 6000 L[k].2.2:=by
 have h1:=hL.pos _ (List.getElem_mem hk);have h2:=hL.whole _ (List.getElem_mem hk);have h3:=hL.le1 L[k].1;have h4:=FS (p:=L[k].1) (f:=fun _=>0) (g:=fun _=>1) hL.pos (fun _ _ _=>by decide) (List.getElem_mem hk) rfl;rw[Ef fun _ _ _=>rfl]at h4;exact⟨by grind,by grind,6000,by omega,Nat.le_refl _,h2⟩
theorem Pq:6000<L1:=Nat.lt_of_le_of_lt (by have:6000^1<=6000^34:=Nat.pow_le_pow_right (by omega) (by omega);omega) KX
theorem Ik (hL:Caps n L) (hk:k<L.length):ShortQ L[k].2.2:=Cs (FW hL hk) Pq
theorem RS (hL:Caps n L) (hk:k<L.length):ShortQ (-1*L[k].2.2):=by
 obtain⟨a,b,d,d1,d2,d3⟩:=FW hL hk
 have:Fit 6000 (-1*L[k].2.2):=⟨by grind,by grind,d,d1,d2,by
  have e:(d:Rat)*(-1*L[k].2.2)=-((d:Rat)*L[k].2.2):=by grind
  rw[e];exact d3.neg⟩
 exact Cs this Pq
theorem RT {D:Nat} (hL:Caps n L) (h:Vals val D) (hk:k<L.length) (q:Nat):ShortQ (L[k].2.2*val q):=by
 have h1:=FW hL hk;have h0:=hL.pos _ (List.getElem_mem hk);have h2:=h.rng q;have h3:=(hL.whole _ (List.getElem_mem hk)).mul (h.whole q)
 have e:6000*L[k].2.2*((D:Rat)*val q)=((6000*D:Nat):Rat)*(L[k].2.2*val q):=by
  rw[Rat.natCast_mul,show ((6000:Nat):Rat)=6000 from rfl];grind
 rw[e]at h3;have h4:=Rat.mul_nonneg (Rat.le_of_lt h0) h2.1;have h5:=Rat.mul_le_mul_of_nonneg_left h2.2 (Rat.le_of_lt h0);have h6:=h1.2.1;have:Fit (6000*D) (L[k].2.2*val q):=⟨by grind,by grind,6000*D,Nat.mul_pos (by omega) h.dp,Nat.le_refl _,h3⟩;exact Cs this (RR h.dle)
theorem Wd (hu:u.Nodup) {h c:Nat} (hc:c<u.length) (e:h=u.getD c 0):FV (u.map fun(q:Nat)=>(q:Int)) (h:Int)=(c:Int):=by
 have a:c<(u.map fun(q:Nat)=>(q:Int)).length:=by simpa using hc
 refine UC a (fun j hj d=>?_) ?_
 · rw[List.getElem_map];intro e2;have e3:u[j]'(by simpa using hj)=h:=by omega
   rw[e,D3 hc]at e3;have hp:=List.pairwise_iff_getElem.1 hu j c (by simpa using hj) hc d;exact hp e3
 · rw[List.getElem_map,e,D3 hc]
theorem Vr {h:Nat} (e:h∉u):FV (u.map fun(q:Nat)=>(q:Int)) (h:Int)=-1:=by
 refine UD fun j hj=>?_;rw[List.getElem_map];intro e2
 exact e (by have e3:u[j]'(by simpa using hj)=h:=by omega
             rw[<-e3];exact List.getElem_mem _)
end
theorem kp_trans {xs ys:List Nat} {w w' w'':World} (h:Kp xs w w') (h2:Kp ys w' w'') (hy:∀y,y∈ys->y∈xs∨w.heap.size<=y):Kp xs w w'' :=
 ⟨h2.os.trans h.os,h2.tape.trans h.tape,h2.output.trans h.output,Nat.le_trans h.size h2.size,fun k hk hx=>(h2.block k (Nat.lt_of_lt_of_le hk h.size) (fun hm=>(hy k hm).elim hx (fun c=>by omega))).trans (h.block k hk hx)⟩
theorem NP {xs:List Nat} {base size m:Nat} {e:TypeId} {u:Value} {l:List Value} {w w':World} (h:w.ownsRow base e size u m l) (hk:Kp xs w w') (hb:∀b,u.ownBlock=some b->b∉xs):w'.ownsRow base e size u m l:=by
 obtain⟨h1,h2⟩:=h;refine⟨h1,?_⟩
 rcases h2 with h2 | ⟨g,cap,cur,hv,hg,hh,rest⟩
 · exact .inl h2
 · exact .inr ⟨g,cap,cur,hv,hg,(hk.block g (Array.getElem?_eq_some_iff.1 hh).1 (hb g (by rw[hv];rfl))).trans hh,rest⟩
theorem JT {xs:List Nat} {w w':World} {b m:Nat} {r:Nat->Raw} (h:RowB w b m r) (hk:Kp xs w w') (hb:b∉xs):RowB w' b m r:=(hk.block b h.lt hb).trans h
end Sh
end
section
open Go.RowKit Go.Shelf
namespace Sh
open Nt Ci
def BdI (w W:World) (xb m i:Nat) (uv:Value) (M:Mx):Prop :=
 ∃ (Aa Ab:Option Addr) (ca cb:Nat) (bl:Nat->Nat),Kp [xb] w W/\Bk W xb 75 [uv,.slice Aa i ca,.slice Ab i cb] /\
  W.ownsRow w.heap.size 27 1 (.slice Aa i ca) i ((List.range i).map fun k=>.slice (some ⟨bl k,0,none⟩) m m) /\
  W.ownsRow w.heap.size 40 3 (.slice Ab i cb) i (AF i fun k=>rq (M k m)) /\
  (∀b,(Value.slice Aa i ca).ownBlock=some b->(Value.slice Ab i cb).ownBlock≠some b) /\
  ∀k,k<i->RowB W (bl k) m (fun j=>rq (M k j))/\(Value.slice Aa i ca).ownBlock≠some (bl k)/\(Value.slice Ab i cb).ownBlock≠some (bl k)/\bl k≠xb
theorem BdI.start {w:World} {xb m:Nat} {uv:Value} {M:Mx} (h:Bk w xb 75 [uv,.slice none 0 0,.slice none 0 0]):BdI w w xb m 0 uv M :=
 ⟨none,none,0,0,fun _=>0,Kp.refl _ _,h,World.ownsRow_nil _ _ _ _,World.ownsRow_nil _ _ _ _,(fun b e=>by cases e),fun k h=>absurd h (Nat.not_lt_zero _)⟩
theorem BdI.step {w wy wz W:World} {xb m i rb:Nat} {uv:Value} {M:Mx} {Aa Ab Aa2 Ab2:Option Addr} {ca cb a h:Nat} {bl:Nat->Nat}
 (hK:Kp [xb] w wy) (ag:wy.ownsRow w.heap.size 27 1 (.slice Aa i ca) i ((List.range i).map fun k=>.slice (some ⟨bl k,0,none⟩) m m))
 (ah:wy.ownsRow w.heap.size 40 3 (.slice Ab i cb) i (AF i fun k=>rq (M k m)))
 (ad:∀k,k<i->RowB wy (bl k) m (fun j=>rq (M k j))/\(Value.slice Aa i ca).ownBlock≠some (bl k)/\(Value.slice Ab i cb).ownBlock≠some (bl k)/\bl k≠xb)
 (hB:Below wy.heap.size wy wz) (ai:rb=wy.heap.size) (ak:xb<wy.heap.size) (aa:RowB wz rb m fun j=>rq (M i j))
 (k1:Kp (xb::((Value.slice Aa i ca).ownBlock.toList++(Value.slice Ab i cb).ownBlock.toList)) wz W)
 (k2:Bk W xb 75 [uv,.slice Aa2 (i+1) a,.slice Ab2 (i+1) h])
 (k3:W.ownsRow w.heap.size 27 1 (.slice Aa2 (i+1) a) (i+1) (((List.range i).map fun k=>.slice (some ⟨bl k,0,none⟩) m m)++[.slice (some ⟨rb,0,none⟩) m m]))
 (k4:W.ownsRow w.heap.size 40 3 (.slice Ab2 (i+1) h) (i+1) ((AF i fun k=>rq (M k m))++[.bool (rq (M i m)).1,.string (rq (M i m)).2.1,.string (rq (M i m)).2.2]))
 (k5:∀b,(Value.slice Aa2 (i+1) a).ownBlock=some b->(Value.slice Ab2 (i+1) h).ownBlock≠some b)
 (k6:(Value.slice Aa2 (i+1) a).ownBlock=(Value.slice Aa i ca).ownBlock∨∃b,(Value.slice Aa2 (i+1) a).ownBlock=some b/\wz.heap.size<=b)
 (k7:(Value.slice Ab2 (i+1) h).ownBlock=(Value.slice Ab i cb).ownBlock∨∃b,(Value.slice Ab2 (i+1) h).ownBlock=some b/\wz.heap.size<=b):BdI w W xb m (i+1) uv M:=by
 have al:=hB.size;have aj:=aa.lt;have la:∀b,(Value.slice Aa i ca).ownBlock=some b->w.heap.size<=b/\b<wy.heap.size:=fun b e=>ag.lt b e;have lb:∀b,(Value.slice Ab i cb).ownBlock=some b->w.heap.size<=b/\b<wy.heap.size:=fun b e=>ah.lt b e
 have ae:∀{b:Nat},b≠xb->(Value.slice Aa i ca).ownBlock≠some b->(Value.slice Ab i cb).ownBlock≠some b->b∉(xb::((Value.slice Aa i ca).ownBlock.toList++(Value.slice Ab i cb).ownBlock.toList)):=fun {b} h1 h2 h3 hm=>by
  rcases List.mem_cons.1 hm with c | c
  · exact h1 c
  · rcases List.mem_append.1 c with c | c
    · exact h2 (by simpa using c)
    · exact h3 (by simpa using c)
 refine⟨Aa2,Ab2,a,h,fun k=>if k=i then rb else bl k,?_,k2,?_,?_,k5,?_⟩
 · refine kp_trans (hK.below hB) k1 fun y hy=>?_
   rcases List.mem_cons.1 hy with c | c
   · exact .inl (by simp[c])
   · rcases List.mem_append.1 c with c | c
     · exact .inr (la y (by simpa using c)).1
     · exact .inr (lb y (by simpa using c)).1
 · have e:(List.range (i+1)).map (fun k=>Value.slice (some ⟨if k=i then rb else bl k,0,none⟩) m m)=((List.range i).map fun k=>.slice (some ⟨bl k,0,none⟩) m m)++[.slice (some ⟨rb,0,none⟩) m m]:=by
    rw[List.range_succ,List.map_append,List.map_singleton,if_pos rfl]
    congr 1
    refine List.map_congr_left fun k hk=>?_;rw[if_neg (by have:=List.mem_range.1 hk;omega)]
   rw[e];exact k3
 · rw[BM];exact k4
 · intro k hk;dsimp only
   by_cases e:k=i
   · subst e;rw[if_pos rfl];have n1:(Value.slice Aa k ca).ownBlock≠some rb:=fun e=>by have:=(la _ e).2;omega
     have n2:(Value.slice Ab k cb).ownBlock≠some rb:=fun e=>by have:=(lb _ e).2;omega
     refine⟨JT aa k1 (ae (by omega) n1 n2),fun e=>?_,fun e=>?_,by omega⟩
     · rcases k6 with c | ⟨b,c,d⟩
       · exact n1 (c▸e)
       · rw[c]at e;cases e;omega
     · rcases k7 with c | ⟨b,c,d⟩
       · exact n2 (c▸e)
       · rw[c]at e;cases e;omega
   · rw [if_neg e];obtain⟨r1,r2,r3,r4⟩:=ad k (by omega);have af:=r1.lt;refine⟨JT (r1.below hB af) k1 (ae r4 r2 r3),fun e=>?_,fun e=>?_,r4⟩
     · rcases k6 with c | ⟨b,c,d⟩
       · exact r2 (c▸e)
       · rw[c]at e;cases e;omega
     · rcases k7 with c | ⟨b,c,d⟩
       · exact r3 (c▸e)
       · rw[c]at e;cases e;omega
theorem Jl {s:SR} (h:At s=true):s.ps.length<=60:=by
 unfold At at h;simp only[Bool.and_eq_true,decide_eq_true_eq]at h;exact h.2.1
theorem FX (k:Int) (q:Rat) (hq:(k:Rat)=q) (hk:-10<=k/\k<=10) (w:World) (hE:Env w) :
 Calls Tryz.prog 53 #[.int .i64 k] w fun e w'=>e=.returned (.agg #[.bool (rq (q)).1,.string (rq (q)).2.1,.string (rq (q)).2.2])/\Below w.heap.size w w':=by
 rw[<-hq];exact Jd k hk w hE
theorem Dp {s:SR} (a:At s=true) {k:Nat} (hk:k<s.cap.length):∃(co ho:Nat) (Ai:Rat),s.cap[k]=((co:Int),(ho:Int),rq Ai)/\(Ae s.cap)[k]'(by unfold Ae;simpa using hk)=(co,ho,Ai)/\co<s.ps.length/\ho<s.ps.length:=by
 obtain⟨⟨h1,h2⟩,⟨h3,h4⟩,h5⟩:=Fb a (List.getElem_mem hk);have hv:=(GP h5).1;have hr:=(EF (x:=lkP s.cap[k]) hv).1;refine⟨s.cap[k].1.toNat,s.cap[k].2.1.toNat,vq (lkP s.cap[k]),?_,by unfold Ae;rw[List.getElem_map],by omega,by omega⟩;rw[hr];have e1:((s.cap[k].1.toNat:Nat):Int)=s.cap[k].1:=by omega
 have e2:((s.cap[k].2.1.toNat:Nat):Int)=s.cap[k].2.1:=by omega
 rw[e1,e2];rfl
theorem Pr {D:Nat} (s:SR) (Ap Ac Av U:Option Addr) (cp cc cv cu:Nat) (u:List Nat) (val:Nat->Rat) (xb vb mb:Nat) (w:World)
 (aU:At s=true) (cf:s.cap.length<=300) (hm:u.length<=8) (hu:u.Nodup) (bR:∀p,p∈u->p<s.ps.length) (hv:Vals val D)
 (hx:Bk w xb 75 [.slice U u.length cu,.slice none 0 0,.slice none 0 0])
 (al:∀W,Kp [xb] w W->Env W) (bo:∀W,Kp [xb] w W->InLk W Ac s.cap) (a5:∀W,Kp [xb] w W->InInt W U (u.map fun(q:Nat)=>(q:Int))) (bj:∀W,Kp [xb] w W->VM W vb mb s.ps.length val) :
 Calls Tryz.prog 55 #[.pointer (some ⟨xb,0,none⟩),.agg #[.slice Ap s.ps.length cp,.slice Ac s.cap.length cc,.slice Av s.vot.length cv],.func (.func 54) #[] #[.pointer (some ⟨vb,0,none⟩)]] w fun e w'=>e=.returned (.tuple #[])/\∃w3,Kp [xb] w w3/\BdI w3 w' xb u.length u.length (.slice U u.length cu) (Bh (Ae s.cap) u val):=by
 have b8:=Jl aU;have hL:=Cl aU;have ci:=hx.lt;have bi:Hid (Kp [xb] w (w.alloc (.cells #[.slice Ap s.ps.length cp,.slice Ac s.cap.length cc,.slice Av s.vot.length cv] 25))):=(Kp.refl [xb] w).alloc _;have bN:Hid (Bk (w.alloc (.cells #[.slice Ap s.ps.length cp,.slice Ac s.cap.length cc,.slice Av s.vot.length cv] 25)) w.heap.size 25 (SC s Ap Ac Av cp cc cv)):=Bk.new w _ _;have aX:Hid (Bk (w.alloc (.cells #[.slice Ap s.ps.length cp,.slice Ac s.cap.length cc,.slice Av s.vot.length cv] 25)) xb 75 [.slice U u.length cu,.slice none 0 0,.slice none 0 0]):=hx.alloc _;have bU:=zh (fun W hW=>FX (-1) (-1) (by decide +kernel) (by omega) W hW);have bq:=zh (fun W hW=>FX 0 0 (by decide +kernel) (by omega) W hW);have bW:=zh (fun W hW=>FX 1 1 (by decide +kernel) (by omega) W hW);have kix:Hid (∀W x,Kp [xb] w W->Calls Tryz.prog 89 #[.slice U u.length cu,.int .i64 x] W fun e w'=>e=.returned (.int .i64 (FV (u.map fun(q:Nat)=>(q:Int)) x))/\w'=W):=fun W x h=>by have:=Ji U cu _ x W (a5 W h) (by rw[List.length_map];omega);rwa [List.length_map]at this
 have kva:Hid (∀W (p:Nat),p<s.ps.length->Kp [xb] w W->Calls Tryz.prog 54 #[.int .i64 (p:Int),.pointer (some ⟨vb,0,none⟩)] W fun e w'=>e=.returned (.agg #[.bool (rq (val p)).1,.string (rq (val p)).2.1,.string (rq (val p)).2.2])/\Below W.heap.size W w'):=fun W p hp h=>Jh s.ps.length val vb mb p hp (by omega) W (al W h) (bj W h);have bH:=zh (fun k h=>Dp aU (k:=k) h);have aN:(Ae s.cap).length=s.cap.length:=by unfold Ae;rw[List.length_map]
 have b7:Hid (∀i (h:i<u.length),u[i]<s.ps.length/\u.getD i 0=u[i]):=fun i h=>⟨bR _ (List.getElem_mem h),D3 h⟩;have a9:(u.map fun(q:Nat)=>(q:Int)).length=u.length:=List.length_map ..;replace al:=zh al;replace bo:=zh bo;replace a5:=zh a5;replace bj:=zh bj;replace hL:=zh hL;replace hv:=zh hv;replace hu:=zh hu;replace aU:=zh aU;replace hx:=zh hx;replace aN:=zh aN;replace a9:=zh a9;clear bR;obtain⟨m,ao⟩:∃m,m=u.length:=⟨_,rfl⟩;have k1:=zh (bU.out (w.alloc (.cells #[.slice Ap s.ps.length cp,.slice Ac s.cap.length cc,.slice Av s.vot.length cv] 25)) (al.out _ bi.out));rw[<-ao]at hx aX hm kix ⊢;replace ao:=zh ao;have x0:=aX.out.c0;have x9:=aX.out.lt;go_enter Tryz.func55,Tryz.ntmps55
 go_wp2_with fail
 refine k1.out.mono ?_;rintro e w2 ⟨rfl,hb⟩;have bw:=zh (bi.out.below hb);have bm:=zh (bN.out.below hb);have bb:=zh (aX.out.below hb);clear hb k1 bU x0 x9 bi bN aX;obtain⟨w3,aq⟩:∃W,W=(w2.alloc (.cells #[.bool (rq (-1)).1,.string (rq (-1)).2.1,.string (rq (-1)).2.2] 40)):=⟨_,rfl⟩;obtain⟨mnb,aA⟩:∃x,x=w2.heap.size:=⟨_,rfl⟩;have bx:Hid (Kp [xb] w w3):=by rw[aq];exact bw.out.alloc _
 have bO:Hid (Bk w3 w.heap.size 25 (SC s Ap Ac Av cp cc cv)):=by rw[aq];exact bm.out.alloc _
 have bS:Hid (Bk w3 xb 75 [.slice U m cu,.slice none 0 0,.slice none 0 0]):=by rw[aq];exact bb.out.alloc _
 have be:Hid (Bk w3 mnb 40 [.bool (rq (-1)).1,.string (rq (-1)).2.1,.string (rq (-1)).2.2]):=by rw[aq,aA];exact Bk.new _ _ _
 have bP:Hid (w2.heap.size<w3.heap.size/\w.heap.size<w2.heap.size):=⟨by rw[aq];simp,bm.out.lt⟩;have x0:=bb.out.c0;have x9:=bb.out.lt
 go_wp2_with fail
 (try rw[<-aq])
 (try rw[<-aA])
 replace aq:=zh aq;clear x0 x9 bw bm bb;have bv:Hid (BdI w3 w3 xb m 0 (.slice U m cu) (Bh (Ae s.cap) u val)):=BdI.start bS.out;have ak:Hid (xb<w3.heap.size/\w.heap.size<w3.heap.size/\mnb<w3.heap.size/\mnb≠xb/\w.heap.size≠xb):=⟨bS.out.lt,bO.out.lt,be.out.lt,by have:=bP.out;omega,by omega⟩;replace aA:=zh aA
 go_loopw [21] (fun ix wr=>∃(i:Nat),i<=m/\ix=.int .i64 (i:Int)/\Hid (BdI w3 wr xb m i (.slice U m cu) (Bh (Ae s.cap) u val))) (fun ix _=>m-(intOf ix).toNat)
 case atStart=>exact⟨0,Nat.zero_le _,rfl,bv⟩
 case round =>
  clear bv;obtain⟨i,hi,rfl,hI⟩:=hrel;obtain⟨wy,rfl⟩:∃z,z=wr:=⟨_,rfl⟩
  by_cases him:i<m
  rotate_left
  · obtain rfl:i=m:=by omega
    go_wp2
    (try simp only[Exit.inBlock,Exit.then])
    go_end0;exact⟨rfl,w3,bx.out,hI.out⟩
  · obtain ⟨Aa,Ab,ca,cb,bl,ai,aH,aQ,aR,bk,ax⟩:=hI.out;replace ai:=zh ai;replace aH:=zh aH;replace aQ:=zh aQ;replace aR:=zh aR;replace bk:=zh bk;replace ax:=zh ax;clear hI;have b1:i<u.length:=by rw[<-ao.out];exact him
    have bz:Hid (Kp [xb] w wy):=kp_trans bx.out ai.out (fun y hy=>.inl hy);have an:=zh (fun W (h:Below wy.heap.size wy W)=>bz.out.below h);obtain⟨ub,uo,bZ,ch,bQ⟩:=(a5.out wy bz.out) (by rw[a9.out];omega);subst bZ;have e1:=bQ i (by rw[a9.out];omega);rw[List.getElem_map]at e1;obtain⟨b6,a7⟩:=b7.out i b1;obtain⟨p,hp⟩:∃p,p=u[i]'b1:=⟨_,rfl⟩;rw[<-hp]at e1 b6 a7;replace hp:=zh hp;clear bQ;have j0:(0:Int)<=(i:Int):=by omega
    have j1:(i:Int)<(m:Int):=by omega
    have x0:=aH.out.c0;have x9:=aH.out.lt;have b3:=F8 27 Tryz.underlying27 m (by omega);obtain⟨rb,am⟩:∃x,x=wy.heap.size:=⟨_,rfl⟩;obtain⟨w5,aV⟩:∃W,W=(wy.alloc (.cells (AF m fun _=>zraw).toArray 40)):=⟨_,rfl⟩;have br:Hid (Below wy.heap.size wy w5):=by rw[aV];exact(Below.refl _ wy).alloc (Nat.le_refl _) _
    have bA:Hid (RowB w5 rb m fun j=>if j<0 then rq 0 else zraw):=by rw[aV,am];refine RowB.congr (r:=fun _=>zraw) (heap_alloc_new wy _) fun j _=>?_;rw[if_neg (Nat.not_lt_zero _)]
    go_wp2_with fail
    (try rw[<-aV])
    (try rw[<-am])
    replace aV:=zh aV;replace am:=zh am;clear b3 x0 x9 e1
    go_loopw [34] (fun kx wr=>∃(k:Nat),k<=m/\kx=.int .i64 (k:Int)/\Hid (Below wy.heap.size wy wr)/\Hid (RowB wr rb m fun j=>if j<k then rq 0 else zraw)) (fun kx _=>m-(intOf kx).toNat)
    case atStart=>exact⟨0,Nat.zero_le _,rfl,br,bA⟩
    case round =>
     clear br bA;obtain⟨k,hk,rfl,a,aj⟩:=hrel;obtain⟨wz,rfl⟩:∃z,z=wr:=⟨_,rfl⟩
     by_cases hkm:k<m
     · have k0:=zh (bq.out wz (al.out _ (an.out _ a.out)));have q0:(0:Int)<=(k:Int):=by omega
       have q1:(k:Int)<(m:Int):=by omega
       go_wp2_with fail
       refine k0.out.mono ?_;rintro e w6 ⟨rfl,hb⟩;have a0:Hid (Below wy.heap.size wy w6):=a.out.trans (hb.mono a.out.size);have ad:Hid (RowB w6 rb m fun j=>if j<k then rq 0 else zraw):=aj.out.below hb aj.out.lt;clear hb k0 a aj;obtain⟨r1,r2,r3⟩:=ad.out.cell hkm;have f1:=ad.out.frozen (k*3);have f2:=ad.out.frozen (k*3+1);have f3:=ad.out.frozen (k*3+2);have r9:=ad.out.lt;have ay:Hid (wy.heap.size<=rb):=Nat.le_of_eq am.out.symm;have aB:Hid (Below wy.heap.size wy (((w6.setCell ⟨rb,k*3,none⟩ (.bool (rq (0)).1)).setCell ⟨rb,k*3+1,none⟩ (.string (rq (0)).2.1)).setCell ⟨rb,k*3+2,none⟩ (.string (rq (0)).2.2))):=((a0.out.setCell (p:=⟨rb,k*3,none⟩) ay.out _).setCell (p:=⟨rb,k*3+1,none⟩) ay.out _).setCell (p:=⟨rb,k*3+2,none⟩) ay.out _;have aL:Hid (RowB (((w6.setCell ⟨rb,k*3,none⟩ (.bool (rq (0)).1)).setCell ⟨rb,k*3+1,none⟩ (.string (rq (0)).2.1)).setCell ⟨rb,k*3+2,none⟩ (.string (rq (0)).2.2)) rb m fun j=>if j<k+1 then rq 0 else zraw):=(ad.out.set hkm (rq 0)).congr fun j _=>by by_cases c:j=k;(· rw[if_pos c,if_pos (by omega)]);(· rw[if_neg c];by_cases d:j<k;(· rw[if_pos d,if_pos (by omega)]);(· rw[if_neg d,if_neg (by omega)]))
       generalize (if k<k then rq 0 else zraw)=rz at r1 r2 r3;go_wp2;exact⟨⟨k+1,by omega,by go_num,aB,aL⟩,by simp only[intOf];omega⟩
     · obtain rfl:k=m:=by omega
       have av:Hid (RowB wz rb k fun _=>rq 0):=aj.out.congr fun j hj=>by rw[if_pos hj]
       clear aj;have k2:=zh (bW.out wz (al.out _ (an.out _ a.out)))
       go_wp2_with fail
       refine k2.out.mono ?_;rintro e w6 ⟨rfl,hb⟩;have a0:Hid (Below wy.heap.size wy w6):=a.out.trans (hb.mono a.out.size);have ad:Hid (RowB w6 rb k fun _=>rq 0):=av.out.below hb av.out.lt;clear hb k2 bW a av;obtain⟨r1,r2,r3⟩:=ad.out.cell him;have f1:=ad.out.frozen (i*3);have f2:=ad.out.frozen (i*3+1);have f3:=ad.out.frozen (i*3+2);have r9:=ad.out.lt;have ay:Hid (wy.heap.size<=rb):=Nat.le_of_eq am.out.symm;obtain⟨w7,aW⟩:∃W,W=(((w6.setCell ⟨rb,i*3,none⟩ (.bool (rq (1)).1)).setCell ⟨rb,i*3+1,none⟩ (.string (rq (1)).2.1)).setCell ⟨rb,i*3+2,none⟩ (.string (rq (1)).2.2)):=⟨_,rfl⟩;have aB:Hid (Below wy.heap.size wy w7):=by rw[aW];exact((a0.out.setCell (p:=⟨rb,i*3,none⟩) ay.out _).setCell (p:=⟨rb,i*3+1,none⟩) ay.out _).setCell (p:=⟨rb,i*3+2,none⟩) ay.out _
       have aL:Hid (RowB w7 rb k fun j=>rq (Ce (Ae s.cap) u i 0 j)):=by rw[aW];exact(ad.out.set him (rq 1)).congr fun j _=>by rw[Po];by_cases c:j=i;(· rw[if_pos c,if_pos c.symm]);(· rw[if_neg c,if_neg (fun e=>c e.symm)])
       have k3:=zh (bq.out w7 (al.out _ (an.out _ aB.out)))
       go_wp2_with fail
       (try rw[<-aW])
       replace aW:=zh aW;refine k3.out.mono ?_;rintro e w8 ⟨rfl,hb⟩;have a1:Hid (Below wy.heap.size wy w8):=aB.out.trans (hb.mono aB.out.size);have av:Hid (RowB w8 rb k fun j=>rq (Ce (Ae s.cap) u i 0 j)):=aL.out.below hb aL.out.lt;clear hb k3 a0 ad aB aL r1 r2 r3 f1 f2 f3 r9 bq;obtain⟨gb,aE⟩:∃x,x=w8.heap.size:=⟨_,rfl⟩;obtain⟨w9,az⟩:∃W,W=(w8.alloc (.cells #[.bool (rq (0)).1,.string (rq (0)).2.1,.string (rq (0)).2.2] 40)):=⟨_,rfl⟩;have bg:Hid (Below wy.heap.size wy w9):=by rw[az];exact a1.out.alloc a1.out.size _
       have bB:Hid (RowB w9 rb k fun j=>rq (Ce (Ae s.cap) u i 0 j)):=by rw[az];exact av.out.alloc _
       have bs:Hid (Bk w9 gb 40 [.bool (rq (BC (Ae s.cap) u val i 0)).1,.string (rq (BC (Ae s.cap) u val i 0)).2.1,.string (rq (BC (Ae s.cap) u val i 0)).2.2]):=by rw[az,aE,Pp];exact Bk.new _ _ _
       have aG:Hid (rb<gb/\wy.heap.size<=gb):=⟨by rw[aE];exact av.out.lt,by rw[aE];exact a1.out.size⟩;have bn:=zh ((bO.out.kp ai.out (by have:=ak.out;simp;omega)).below bg.out);have u1:=bn.out.c1;have u9:=bn.out.lt;rw[az]at u1 u9
       go_wp2_with fail
       (try rw[<-az])
       (try rw[<-aE])
       replace az:=zh az;replace aE:=zh aE;clear u1 u9 a1 av bn
       go_loopw [50] (fun kx wr=>∃(c:Nat),c<=s.cap.length/\kx=.int .i64 (c:Int)/\Hid (Below wy.heap.size wy wr)/\Hid (RowB wr rb k fun j=>rq (Ce (Ae s.cap) u i c j))/\Hid (Bk wr gb 40 [.bool (rq (BC (Ae s.cap) u val i c)).1,.string (rq (BC (Ae s.cap) u val i c)).2.1,.string (rq (BC (Ae s.cap) u val i c)).2.2])) (fun kx _=>s.cap.length-(intOf kx).toNat)
       case atStart=>exact⟨0,Nat.zero_le _,rfl,bg,bB,bs⟩
       case round =>
        clear bg bB bs;obtain⟨c,hc,rfl,a,aj,a3⟩:=hrel;obtain⟨wz,rfl⟩:∃z,z=wr:=⟨_,rfl⟩
        by_cases hcl2:c<s.cap.length
        · obtain ⟨aZ,off,bX,ce,bF⟩:=(bo.out wz (an.out _ a.out)) (by omega);subst bX;obtain⟨e1,e2,e3,e4,e5⟩:=bF c hcl2;obtain⟨co,ho,Ai,aO,ae,cg,b0⟩:=bH.out c hcl2;rw[aO]at e1 e2 e3 e4 e5;replace e1:wz.cell? ⟨aZ,off+c*5,none⟩=some (.int .i64 (co:Int)):=e1;replace e2:wz.cell? ⟨aZ,off+c*5+1,none⟩=some (.int .i64 (ho:Int)):=e2;replace e3:wz.cell? ⟨aZ,off+c*5+2,none⟩=some (.bool (rq Ai).1):=e3;replace e4:wz.cell? ⟨aZ,off+c*5+3,none⟩=some (.string (rq Ai).2.1):=e4;replace e5:wz.cell? ⟨aZ,off+c*5+4,none⟩=some (.string (rq Ai).2.2):=e5;have af:c<(Ae s.cap).length:=by rw[aN.out];exact hcl2
          have aT:(Ae s.cap)[c].2.2=Ai:=by rw[ae]
          have aS:=Ik hL.out af;have a6:=RS hL.out af;have b5:=zh (fun q=>RT hL.out hv.out af q);rw[aT]at aS a6;replace aS:=zh aS;replace a6:=zh a6;have bp:Hid (co≠p->(∀j,Ce (Ae s.cap) u i (c+1) j=Ce (Ae s.cap) u i c j)/\BC (Ae s.cap) u val i (c+1)=BC (Ae s.cap) u val i c):=fun b4=>RQ af (by rw[ae,a7];exact b4);have bG:Hid (co=p->∀t (ht:t<u.length),ho=u.getD t 0->(∀j,j<u.length->Ce (Ae s.cap) u i (c+1) j=if j=t then Ce (Ae s.cap) u i c t+-1*Ai else Ce (Ae s.cap) u i c j)/\BC (Ae s.cap) u val i (c+1)=BC (Ae s.cap) u val i c):=fun he t ht hh=>by have h:=Vp (val:=val) (i:=i) hu.out af (by rw[ae,a7];exact he) ht (by rw[ae];exact hh);rwa [aT]at h
          have bf:Hid (co=p->ho∉u->(∀j,j<u.length->Ce (Ae s.cap) u i (c+1) j=Ce (Ae s.cap) u i c j)/\BC (Ae s.cap) u val i (c+1)=BC (Ae s.cap) u val i c+Ai*val ho):=fun he hh=>by have h:=Hi (val:=val) (i:=i) af (by rw[ae,a7];exact he) (by rw[ae];exact hh);rwa [ae]at h
          replace aO:=zh aO;replace ae:=zh ae;replace aT:=zh aT;replace af:=zh af;clear bF;have c0:(0:Int)<=(c:Int):=by omega
          have c1:(c:Int)<(s.cap.length:Int):=by omega
          obtain⟨lb,aF⟩:∃x,x=wz.heap.size:=⟨_,rfl⟩;obtain⟨wa,ar⟩:∃W,W=(wz.alloc (.cells #[.int .i64 (co:Int),.int .i64 (ho:Int),.bool (rq Ai).1,.string (rq Ai).2.1,.string (rq Ai).2.2] 59)):=⟨_,rfl⟩;have aI:Hid (Below wy.heap.size wy wa):=by rw[ar];exact a.out.alloc a.out.size _
          have a4:Hid (RowB wa rb k fun j=>rq (Ce (Ae s.cap) u i c j)):=by rw[ar];exact aj.out.alloc _
          have a2:Hid (Bk wa gb 40 [.bool (rq (BC (Ae s.cap) u val i c)).1,.string (rq (BC (Ae s.cap) u val i c)).2.1,.string (rq (BC (Ae s.cap) u val i c)).2.2]):=by rw[ar];exact a3.out.alloc _
          have ag:Hid (Bk wa lb 59 [.int .i64 (co:Int),.int .i64 (ho:Int),.bool (rq Ai).1,.string (rq Ai).2.1,.string (rq Ai).2.2]):=by rw[ar,aF];exact Bk.new _ _ _
          have bJ:Hid (rb≠lb/\gb≠lb):=⟨by rw[aF];exact Nat.ne_of_lt aj.out.lt,by rw[aF];exact Nat.ne_of_lt a3.out.lt⟩;have y0:=ag.out.c0;have y1:=ag.out.c1;have y9:=ag.out.lt;rw[ar,aF]at y0 y1 y9
          by_cases hcp:co=p
          rotate_left
          · have t1:((co:Int) != (p:Int))=true:=by rw[bne_iff_ne];omega
            have aa:=bp.out hcp;have bC:Hid (RowB wa rb k fun j=>rq (Ce (Ae s.cap) u i (c+1) j)):=a4.out.congr fun j _=>by rw[aa.1 j]
            have bt:Hid (Bk wa gb 40 [.bool (rq (BC (Ae s.cap) u val i (c+1))).1,.string (rq (BC (Ae s.cap) u val i (c+1))).2.1,.string (rq (BC (Ae s.cap) u val i (c+1))).2.2]):=by rw[aa.2];exact a2.out
            replace hcp:=zh hcp;rw[ar]at aI bC bt;clear aa bp bG bf a4 a2 ag;go_wp2;exact⟨⟨c+1,by omega,by go_num,aI,bC,bt⟩,by simp only[intOf];omega⟩
          · have t1:((co:Int) != (p:Int))=false:=by rw[bne_eq_false_iff_eq];omega
            have bd:=zh hcp;clear hcp;have aY:=zh (aH.out.below aI.out);clear bp y0 y1 y9;have y0:=ag.out.c0;have y9:=ag.out.lt;rw[ar,aF]at y0 y9
            go_wp2_with fail
            subst ar;subst aF;clear y0 y9;have b2:=zh (fun W (h:Below wy.heap.size wy W)=>an.out W h);have ah:Hid (Below wy.heap.size wy (wz.alloc (.cells #[.int .i64 (co:Int),.int .i64 (ho:Int),.bool (rq Ai).1,.string (rq Ai).2.1,.string (rq Ai).2.2] 59)).drew):=aI.out.drew;have bE:Hid ((wz.alloc (.cells #[.int .i64 (co:Int),.int .i64 (ho:Int),.bool (rq Ai).1,.string (rq Ai).2.1,.string (rq Ai).2.2] 59)).drew.cell? ⟨xb,0,none⟩=some (.slice (some ⟨ub,uo,none⟩) k cu)/\(wz.alloc (.cells #[.int .i64 (co:Int),.int .i64 (ho:Int),.bool (rq Ai).1,.string (rq Ai).2.1,.string (rq Ai).2.2] 59)).drew.cell? ⟨wz.heap.size,1,none⟩=some (.int .i64 (ho:Int))):=⟨aY.out.c0,ag.out.c1⟩;have x0:=aY.out.c0;have x9:=aY.out.lt;have y1:=ag.out.c1;have y9:=ag.out.lt
            go_region_held3 (fun W=>W.cell? ⟨xb,0,none⟩=some (.slice (some ⟨ub,uo,none⟩) k cu)/\W.cell? ⟨wz.heap.size,1,none⟩=some (.int .i64 (ho:Int))) (first | (with_reducible exact bE.out) | (with_reducible exact⟨aY.out.c0,ag.out.c1⟩) | go_keep) (first | (go_at_call 89;refine(kix.out _ _ (b2.out _ ah.out)).mono ?_;rintro e w7b ⟨rfl,hq⟩;obtain rfl:=hq.symm))
            clear x0 x9 y1 y9 bE;have aM:Hid (RowB (wz.alloc (.cells #[.int .i64 (co:Int),.int .i64 (ho:Int),.bool (rq Ai).1,.string (rq Ai).2.1,.string (rq Ai).2.2] 59)).drew rb k fun j=>rq (Ce (Ae s.cap) u i c j)):=a4.out;have aJ:Hid (Bk (wz.alloc (.cells #[.int .i64 (co:Int),.int .i64 (ho:Int),.bool (rq Ai).1,.string (rq Ai).2.1,.string (rq Ai).2.2] 59)).drew gb 40 [.bool (rq (BC (Ae s.cap) u val i c)).1,.string (rq (BC (Ae s.cap) u val i c)).2.1,.string (rq (BC (Ae s.cap) u val i c)).2.2]):=a2.out;have aK:Hid (Bk (wz.alloc (.cells #[.int .i64 (co:Int),.int .i64 (ho:Int),.bool (rq Ai).1,.string (rq Ai).2.1,.string (rq Ai).2.2] 59)).drew wz.heap.size 59 [.int .i64 (co:Int),.int .i64 (ho:Int),.bool (rq Ai).1,.string (rq Ai).2.1,.string (rq Ai).2.2]):=ag.out;obtain⟨wd,ba⟩:∃W,W=(wz.alloc (.cells #[.int .i64 (co:Int),.int .i64 (ho:Int),.bool (rq Ai).1,.string (rq Ai).2.1,.string (rq Ai).2.2] 59)).drew:=⟨_,rfl⟩;rw[<-ba]at ah aM aJ aK
            (try rw[<-ba])
            replace ba:=zh ba;clear aI a4 a2 ag aY;have aP:Hid (Bk wd mnb 40 [.bool (rq (-1)).1,.string (rq (-1)).2.1,.string (rq (-1)).2.2]):=(be.out.kp ai.out (by have:=ak.out;simp;omega)).below ah.out;have bI:Hid (rb≠mnb):=fun e=>by have h1:=ak.out;have h2:=ai.out.size;have h3:=am.out;omega
            by_cases hu1:ho∈u
            · obtain⟨t,ht,a8⟩:∃t,t<u.length/\ho=u.getD t 0:=⟨u.idxOf ho,List.idxOf_lt_length_iff.2 hu1,(FU hu1).symm⟩;have aw:FV (u.map fun(q:Nat)=>(q:Int)) (ho:Int)=(t:Int):=Wd hu.out ht a8;have aa:=bG.out bd.out t ht a8;rw[aw];rw[<-ao.out]at ht aa;replace aa:=zh aa;replace aw:=zh aw;replace hu1:=zh hu1;replace a8:=zh a8;have t2:decide ((0:Int)<=(t:Int))=true:=decide_eq_true (by omega)
              go_wp2_with fail
              refine Wv mnb rb wz.heap.size k t _ (Ce (Ae s.cap) u i c t) Ai _ _ wd (al.out _ (an.out _ ah.out)) ht (by omega) aM.out rfl aP.out aK.out bI.out bJ.out.1 (Ii hL.out) aS.out a6.out ?_;intro _ _ _ _ _ _ _ _ _ _ _ we bD au;have bh:Hid (Below wy.heap.size wy we):=au.out.to_below ah.out (fun x hx=>by have:=am.out;simp at hx;omega);have aD:Hid (RowB we rb k fun j=>rq (Ce (Ae s.cap) u i (c+1) j)):=bD.out.congr fun j hj=>by rw[aa.out.1 j hj];split<;>rfl
              have aC:Hid (Bk we gb 40 [.bool (rq (BC (Ae s.cap) u val i (c+1))).1,.string (rq (BC (Ae s.cap) u val i (c+1))).2.1,.string (rq (BC (Ae s.cap) u val i (c+1))).2.2]):=by rw[aa.out.2];exact aJ.out.kp au.out (by have:=aG.out;simp;omega)
              clear bD au aM aJ aK ah aP;go_wp2;exact⟨⟨c+1,by omega,by go_num,bh,aD,aC⟩,by simp only[intOf];omega⟩
            · have aw:FV (u.map fun(q:Nat)=>(q:Int)) (ho:Int)=-1:=Vr hu1;have aa:=bf.out bd.out hu1;rw[aw];rw[<-ao.out]at aa;replace aa:=zh aa;replace aw:=zh aw;replace hu1:=zh hu1;have bL:=zh (b5.out ho);rw[aT.out]at bL
              go_wp2_with fail
              refine Ww gb wz.heap.size vb (ho:Int) (BC (Ae s.cap) u val i c) Ai (val ho) _ wd (al.out _ (an.out _ ah.out)) aJ.out aK.out bJ.out.2 (Ij hL.out hv.out) aS.out (hv.out.short ho) bL.out (fun W hW=>kva.out W ho b0 (an.out _ (ah.out.trans (hW.mono ah.out.size)))) ?_;intro _ _ _ _ _ _ _ _ we bu au;have bh:Hid (Below wy.heap.size wy we):=au.out.to_below ah.out (fun x hx=>by have:=aG.out;simp at hx;omega);have aD:Hid (RowB we rb k fun j=>rq (Ce (Ae s.cap) u i (c+1) j)):=(JT aM.out au.out (by have:=aG.out;simp;omega)).congr fun j hj=>by rw[aa.out.1 j hj]
              have aC:Hid (Bk we gb 40 [.bool (rq (BC (Ae s.cap) u val i (c+1))).1,.string (rq (BC (Ae s.cap) u val i (c+1))).2.1,.string (rq (BC (Ae s.cap) u val i (c+1))).2.2]):=by rw[aa.out.2];exact bu.out
              clear bu au aM aJ aK ah aP;go_wp2;exact⟨⟨c+1,by omega,by go_num,bh,aD,aC⟩,by simp only[intOf];omega⟩
        · obtain rfl:c=s.cap.length:=by omega
          have aD:Hid (RowB wz rb k fun j=>rq (Bh (Ae s.cap) u val i j)):=aj.out.congr fun j hj=>by rw[<-aN.out,Ld (val:=val) (by rw[<-ao.out];exact hj)]
          have aC:Hid (Bk wz gb 40 [.bool (rq (Bh (Ae s.cap) u val i k)).1,.string (rq (Bh (Ae s.cap) u val i k)).2.1,.string (rq (Bh (Ae s.cap) u val i k)).2.2]):=by have h:=a3.out;rw[<-aN.out,Le,<-ao.out]at h;exact h
          have bT:=zh (aH.out.below a.out);have bK:=zh (AR aQ.out a.out);have bM:=zh (AR aR.out a.out);clear aj a3 bH kix kva
          go_wp2_with fail
          refine Wx xb gb rb k i ca cb w3.heap.size Aa Ab _ _ _ (rq (Bh (Ae s.cap) u val i k)) wz (by omega) bT.out aC.out (by have h1:=ak.out;have h2:=ai.out.size;have h3:=aG.out;omega) (Nat.le_trans ai.out.size a.out.size) ak.out.1 bK.out bM.out bk.out (fun e=>by have h1:=(aQ.out.lt _ e).2;have h3:=aG.out;omega) (fun e=>by have h1:=(aR.out.lt _ e).2;have h3:=aG.out;omega) ?_;intro _ _ _ _ _ _ _ _ _ _ _ _ _ _ _ _ _ _ _ _ Aa2 Ab2 b9 cd we k1 k2 k3 k4 k5 k6 k7;have bY:Hid (BdI w3 we xb k (i+1) (.slice (some ⟨ub,uo,none⟩) k cu) (Bh (Ae s.cap) u val)):=BdI.step ai.out aQ.out aR.out ax.out a.out am.out (by have h1:=ak.out;have h2:=ai.out.size;omega) aD.out k1.out k2.out k3.out k4.out k5.out k6.out k7.out;clear k1 k2 k3 k4 k5 k6 k7 bT bK bM aD aC a;go_wp2;exact⟨⟨i+1,by omega,by go_num,bY⟩,by simp only[intOf];omega⟩
end Sh
end
section
open Go.RowKit Go.Shelf
namespace Sh
open Nt Ci
theorem Il {n D:Nat} {L:List Lp} {u:List Nat} {val:Nat->Rat} (hL:Caps n L) (hv:Vals val D) {i j:Nat} (hj:j<=u.length):ShortQ (Bh L u val i j):=by
 by_cases e:j=u.length
 · rw[e,<-Le];exact Ij hL hv
 · rw[<-Ld (val:=val) (by omega:j<u.length)];exact Ii hL
theorem Im {W:World} {b n:Nat} {f:Nat->Rat} (h:RowB W b n fun j=>rq (f j)):InRow W (some ⟨b,0,none⟩) (AN n f):=fun _=>⟨b,0,rfl,h.lt,fun j hj=>by
 have a:j<n:=by rwa [Ag]at hj
 obtain⟨c1,c2,c3⟩:=h.cell a;rw[BB];rw[Nat.zero_add];exact⟨c1,c2,c3⟩⟩
theorem BdI.slv {n D:Nat} {w W:World} {xb:Nat} {uv:Value} {L:List Lp} {u:List Nat} {val:Nat->Rat} (h:BdI w W xb u.length u.length uv (Bh L u val)) (hL:Caps n L) (hv:Vals val D) (h8:u.length<=8) :
 ∃(Aa Ab:Option Addr) (ca cb:Nat) (la:List RowH),Kp [xb] w W/\Bk W xb 75 [uv,.slice Aa u.length ca,.slice Ab u.length cb]/\la.length=u.length/\SysIn W Aa Ab la (Fj L u val)/\BA la=Dc L u val:=by
 obtain⟨Aa,Ab,ca,cb,bl,hK,hx,ae,af,ag,d⟩:=h
 let la:List RowH:=(List.range u.length).map fun k=>((some ⟨bl k,0,none⟩:Option Addr),u.length,AN u.length (Bh L u val k))
 have a:la.length=u.length:=by simp[la]
 have aa:∀x∈la,∃k,k<u.length/\x=((some ⟨bl k,0,none⟩:Option Addr),u.length,AN u.length (Bh L u val k)):=fun x hx=>by
  obtain⟨k,hk,rfl⟩:=List.mem_map.1 hx;exact⟨k,List.mem_range.1 hk,rfl⟩
 have ad:(List.range u.length).map (fun k=>Value.slice (some ⟨bl k,0,none⟩) u.length u.length)=la.map hdr:=by
  simp only[la,List.map_map];refine List.map_congr_left fun k _=>?_;simp[hdr,Ag]
 obtain ⟨A1,c1,e1,hM⟩:=inMat_of_own (L:=la) (v:=.slice Aa u.length ca) (by rw[<-ad,a];exact ae) (fun x hx=>by
  obtain⟨k,hk,rfl⟩:=aa x hx;exact Im (d k hk).1)
 obtain⟨A2,c2,e2,hR⟩:=Eu af;rw[a]at e1;injection e1 with q1 _ _;injection e2 with q2 _ _;subst q1;subst q2;refine⟨Aa,Ab,ca,cb,la,hK,hx,a,⟨hM,hR,by omega,by rw[show (Fj L u val).length=u.length from Ag _ _];omega,fun x hx=>?_,fun x hx=>?_⟩,?_⟩
 · obtain⟨k,hk,rfl⟩:=aa x hx;refine⟨by show (AN _ _).length<=_;rw[Ag];omega,fun y hy=>?_⟩;obtain⟨j,hj,rfl⟩:=List.mem_map.1 (show y∈AN u.length (Bh L u val k) from hy);exact KM (Il hL hv (Nat.le_of_lt (List.mem_range.1 hj))).ok
 · obtain⟨j,hj,rfl⟩:=List.mem_map.1 (show x∈AN u.length (fun i=>Bh L u val i u.length) from hx);exact KM (Il hL hv (Nat.le_refl _)).ok
 · simp[BA,la,Dc,List.map_map]
theorem TV {n D:Nat} {L:List Lp} {F done u:List Nat} {val:Nat->Rat} (hL:Caps n L) (hi:Inv L F done val D) (hx:Nxt L F done u) (a:done.length+u.length<=16) (h8:u.length<=8)
 {W:World} {Aa Ab:Option Addr} {ca cb:Nat} {la:List RowH} (hE:Env W) (hl:la.length=u.length) (hs:SysIn W Aa Ab la (Fj L u val)) (hr:BA la=Dc L u val) :
 Calls Tryz.prog 56 #[.slice Aa u.length ca,.slice Ab u.length cb] W fun e w'=>(∃p c,e=.returned (.tuple #[.slice p u.length c,.int .i64 0])/\InRow w' p (AN u.length fun i=>C5 SQ L u val (u.getD i 0)))/\Below W.heap.size W w':=by
 have h:=TJ Aa Ab ca cb la (Fj L u val) W hE hs;have hb:(Fj L u val).length=u.length:=Ag _ _;rw[hr,Lc hL hi hx a h8,hl,hb]at h;refine h.mono fun e w' ⟨⟨p,c,e1,e2⟩,hB⟩=>⟨⟨p,c,?_,e2⟩,hB⟩;rw[e1]
 show Ending.returned (.tuple #[.slice p (AN u.length _).length c,.int .i64 0])=_
 rw[Ag]
end Sh
end
section
open Go.RowKit Go.Shelf
attribute [local go_sem] Oper.semAt_some
namespace Bd
open Nt Ci Sh
theorem G2 {B:Nat} {W A:World} {row:Option Nat} {b:Nat} {t:TypeId} {cs:List Value} (h:Bk W b t cs) (hg:W.grownBy A row) (hr:∀r,row=some r->B<=r/\∃o:Obj,W.heap[r]? = some o/\o.isCells=false):Bk A b t cs :=
 h.grown hg fun e=>by
  obtain⟨_,o,ho,hn⟩:=hr b e.symm;rw[show W.heap[b]? = some (.cells cs.toArray t (0,0)) from h]at ho
  cases ho;cases hn
def DG (L:List Lp) (val:Nat->Rat) (i:Nat):Rat:=(L.getD i (0,0,0)).2.2*val (L.getD i (0,0,0)).2.1
def E0 {n:Nat} (L:List Lp) (val:Nat->Rat) (pre:List (E7 n)):Rat:=pre.foldl (fun a i=>a+DG L val i.1) 0
theorem G3 {n:Nat} (L:List Lp) (val:Nat->Rat) (pre:List (E7 n)) (x:E7 n):E0 L val (pre++[x])=E0 L val pre+DG L val x.1:=by
 unfold E0;rw[List.foldl_append];rfl
theorem G4 {s:SR} (h:At s=true) (val:Nat->Rat) (p:Nat):∀k,k<=s.cap.length->E0 (Ae s.cap) val (Ex (p:Int) s.cap k)=An p val ((Ae s.cap).take k)
 | 0,_=>by rw[List.take_zero];rfl
 | k + 1,hk=>by
   have aa:(Ae s.cap).length=s.cap.length:=by unfold Ae;rw[List.length_map]
   obtain⟨co,ho,Ai,ae,d,ag,ah⟩:=Dp h (k:=k) (by omega);have af:=CM (p:=p) (f:=val) (l:=Ae s.cap) (k:=k) (by rw[aa];omega);have a:=Jc (p:Int) s.cap (k:=k) (by omega);rw[ae]at a;dsimp only at a;rw[af,d,a];have ih:=G4 h val p k (by omega);dsimp only
   by_cases c:co=p
   · have ad:k<(Ae s.cap).length:=by omega
     have ht:DG (Ae s.cap) val k=Ai*val ho:=by
      unfold DG;rw[List.getD_eq_getElem?_getD,List.getElem?_eq_getElem ad,d];rfl
     rw[if_pos c,if_pos (by omega),G3,ih];exact congrArg (An p val ((Ae s.cap).take k)+·) ht
   · rw[if_neg c,if_neg (by omega),List.append_nil,ih,Rat.add_zero]
theorem Lf (s:SR) (Ap Ac Av Aw Ar:Option Addr) (cp cc cv cw cr nr:Nat) (ab:Bool) (sb qb p:Nat) (val:Nat->Rat) (w:World) (hE:Env w) (hc:InLk w Ac s.cap) (aA:At s=true) (a6:s.cap.length<=300)
 (hv:InRow w Aw (AN s.ps.length val)) (aD:∀q,q<s.ps.length->ShortQ (val q)) (az:∀i,i<s.cap.length->ShortQ (DG (Ae s.cap) val i)) (aB:∀pre:List (E7 s.cap.length),pre.length<=s.cap.length->ShortQ (E0 (Ae s.cap) val pre))
 (hS:Bk w sb 25 [.slice Ap s.ps.length cp,.slice Ac s.cap.length cc,.slice Av s.vot.length cv]) (hQ:Bk w qb 29 [.bool ab,.slice Aw s.ps.length cw,.slice Ar nr cr]) :
 Calls Tryz.prog 39 #[.int .i64 (p:Int),.pointer (some ⟨sb,0,none⟩),.pointer (some ⟨qb,0,none⟩)] w fun e w'=>e=.returned (.agg #[.bool (rq (An p val (Ae s.cap))).1,.string (rq (An p val (Ae s.cap))).2.1,.string (rq (An p val (Ae s.cap))).2.2])/\Below w.heap.size w w':=by
 have hL:=Cl aA;have u0:=hS.c0;have u1:=hS.c1;have u2:=hS.c2;have u9:=hS.lt;have kh:=zh (fun W=>GI s Ap Ac Av cp cc cv (p:Int) W);have aM:Hid (([.bool false,.string ⟨#[48]⟩,.string ⟨#[49]⟩]:List Value)=[.bool (rq (0)).1,.string (rq (0)).2.1,.string (rq (0)).2.2]):=zh (by kernel_rfl);obtain⟨w1,ag⟩:∃W,W=(((w.alloc (.cells #[.bool false,.string ⟨#[]⟩,.string ⟨#[]⟩] 40)).alloc (.cells #[.bool false,.string ⟨#[48]⟩,.string ⟨#[49]⟩] 40)).alloc (.cells #[.slice Ap s.ps.length cp,.slice Ac s.cap.length cc,.slice Av s.vot.length cv] 25)).alloc (.cells #[.int .i64 (p:Int)] 3):=⟨_,rfl⟩;have a9:w1.heap.size=w.heap.size+4:=by rw[ag];simp
 have aE:Hid (Below w.heap.size w w1):=by rw[ag];exact((((Below.refl _ w).alloc (Nat.le_refl _) _).alloc (by simp) _).alloc (by simp;omega) _).alloc (by simp;omega) _
 have aP:Hid (Bk w1 w.heap.size 40 [.bool false,.string ⟨#[]⟩,.string ⟨#[]⟩]):=by rw[ag];exact(((Bk.new w _ _).alloc _).alloc _).alloc _
 have aT:Hid (Bk w1 (w.heap.size+1) 40 [.bool (rq (0)).1,.string (rq (0)).2.1,.string (rq (0)).2.2]):=by
  rw[ag,<-aM.out];have h:=Bk.new (w.alloc (.cells #[.bool false,.string ⟨#[]⟩,.string ⟨#[]⟩] 40)) 40 [.bool false,.string ⟨#[48]⟩,.string ⟨#[49]⟩];rw[World.size_alloc]at h;exact(h.alloc _).alloc _
 have aR:Hid (Bk w1 (w.heap.size+1+1) 25 [.slice Ap s.ps.length cp,.slice Ac s.cap.length cc,.slice Av s.vot.length cv]):=by
  rw[ag];have h:=Bk.new ((w.alloc (.cells #[.bool false,.string ⟨#[]⟩,.string ⟨#[]⟩] 40)).alloc (.cells #[.bool false,.string ⟨#[48]⟩,.string ⟨#[49]⟩] 40)) 25 [.slice Ap s.ps.length cp,.slice Ac s.cap.length cc,.slice Av s.vot.length cv];rw[World.size_alloc,World.size_alloc]at h;exact h.alloc _
 have aG:Hid (Bk w1 (w.heap.size+1+1+1) 3 [.int .i64 (p:Int)]):=by
  rw[ag];have h:=(Bk.new (((w.alloc (.cells #[.bool false,.string ⟨#[]⟩,.string ⟨#[]⟩] 40)).alloc (.cells #[.bool false,.string ⟨#[48]⟩,.string ⟨#[49]⟩] 40)).alloc (.cells #[.slice Ap s.ps.length cp,.slice Ac s.cap.length cc,.slice Av s.vot.length cv] 25)) 3 [.int .i64 (p:Int)]);rw[World.size_alloc,World.size_alloc,World.size_alloc]at h;exact h
 have aO:Hid (w1.cell? ⟨w.heap.size+1+1+1,0,none⟩=some (.int .i64 (p:Int))):=aG.out.c0;have aU:Hid (InLk w1 Ac s.cap):=hc.below aE.out
 have aV:Hid (0<s.cap.length->∀b o,Ac=some ⟨b,o,none⟩->b<w.heap.size):=fun h0 b o e=>by
  obtain⟨b',o',e',hl,_⟩:=hc h0;rw[e]at e';cases e';exact hl
 replace hE:=zh hE;replace hc:=zh hc;replace hv:=zh hv;replace aD:=zh aD;replace az:=zh az;replace aB:=zh aB;replace hS:=zh hS;replace hQ:=zh hQ;replace hL:=zh hL;refine(callsIn_wide (n:=3)).1 ?_;refine callsIn_of_wp_marks Tryz.func39 rfl trivial ?_ rfl;simp only[Tryz.ntmps39,List.size_toArray,List.length_cons,List.length_nil,Nat.reduceAdd,Nat.reduceSub,Array.replicate_succ,Array.replicate_zero,List.push_toArray,List.append_toArray,List.nil_append,List.cons_append];refine wpIn_wide.2 ?_
 go_wp2_with fail
 refine(kh.out _).mono ?_;rintro e w2 ⟨rfl,rfl⟩
 go_wp2_with fail
 rw[<-ag];replace ag:=zh ag;clear u0 u1 u2 u9 kh;refine(wpIn_wide (n:=3)).1 ?_
 refine wpIn_rangeFunc_ownH (F:=Fence.wide) rfl (by decide) (gf:=87) (lb:=#[.pointer (some ⟨w.heap.size+1+1,0,none⟩),.pointer (some ⟨w.heap.size+1+1+1,0,none⟩)]) rfl trivial (enters_of Tryz.func87 (by kernel_rfl) rfl)
  (Fo Fence.wide 2 trivial rfl (by decide) s Ap Ac Av cp cc cv (w.heap.size+1+1) (w.heap.size+1+1+1) w.heap.size (p:Int) w1 aU.out (by omega) (by omega) aV.out (by omega) aR.out aO.out) (fun h k=>Kq.trans h k) (VZ (by omega) (by omega)) (Below.refl _ _) (fun _=>rfl)
  (fun pre W=>(Bk W (w.heap.size+1) 40 [.bool (rq (E0 (Ae s.cap) val pre)).1,.string (rq (E0 (Ae s.cap) val pre)).2.1,.string (rq (E0 (Ae s.cap) val pre)).2.2]/\Bk W w.heap.size 40 [.bool false,.string ⟨#[]⟩,.string ⟨#[]⟩]/\Bk W (w.heap.size+1+1+1) 3 [.int .i64 (p:Int)])/\Below w.heap.size w W)
  (fun _ _ _=>False)
  (OwnFrom.and (fun _ _ _ _ hs hg hr=>⟨G2 hs.1 hg hr,G2 hs.2.1 hg hr,G2 hs.2.2 hg hr⟩) (ownFrom_below (Nat.le_refl _) (by omega)))
  (fun _ _ _ _ _ hs _ _=>hs)
  ⟨⟨aT.out,aP.out,aG.out⟩,aE.out⟩
  (fun x a' W=>∃Bx,w.heap.size+1+1+1<Bx/\Bk W Bx 59 [.int .i64 (s.cap[x.1]'x.2).1,.int .i64 (s.cap[x.1]'x.2).2.1,.bool (s.cap[x.1]'x.2).2.2.1,.string (s.cap[x.1]'x.2).2.2.2.1,.string (s.cap[x.1]'x.2).2.2.2.2]/\a'={ tmps:=#[.int .i64 (p:Int),.pointer (some ⟨sb,0,none⟩),.pointer (some ⟨qb,0,none⟩),undef,.pointer (some ⟨w.heap.size,0,none⟩),.pointer (some ⟨w.heap.size+1,0,none⟩),.pointer (some ⟨Bx,0,none⟩),undef,undef,.agg #[.bool false,.string ⟨#[48]⟩,.string ⟨#[49]⟩],.agg #[.slice Ap s.ps.length cp,.slice Ac s.cap.length cc,.slice Av s.vot.length cv],.int .i64 (p:Int),.func (.func 87) #[] #[.pointer (some ⟨w.heap.size+1+1,0,none⟩),.pointer (some ⟨w.heap.size+1+1+1,0,none⟩)],lkV (s.cap[x.1]'x.2),undef,undef,undef,undef,undef,undef,undef,undef,undef,undef,undef,undef,undef,undef,undef,undef,undef,undef,undef],defers:=[] })
  (fun x a' _ X Y row hs hg hr=>by obtain⟨Bx,h1,h2,h3⟩:=hs;exact⟨Bx,h1,G2 h2 hg hr,h3⟩)
  ?assign ?body ?done ?stop
 case assign =>
  rintro l pre x W K ⟨⟨bT,bR,bP⟩,hB⟩ hK;have ai:=hB.size;have hP:=bP.lt;unfold lkV
  gi_wp2
  exact hK _ _ ((KeepsOthers.alloc _ _).from _) ((Kq.refl W).alloc ai hP _) ⟨⟨bT.alloc _,bR.alloc _,bP.alloc _⟩,hB.alloc ai _⟩ ⟨W.heap.size,by omega,Bk.new W _ _,rfl⟩
 case body =>
  rintro l pre x a' W hl ⟨r,hr⟩ ⟨⟨bT,bR,bP⟩,hB⟩ ⟨Bx,a5,bX,rfl⟩ a8;obtain⟨i,hi⟩:=x;obtain⟨co,ho,Ai,ay,au,a7,aW⟩:=Dp aA (k:=i) hi;dsimp only at bX ⊢;have aJ:(Ae s.cap).length=s.cap.length:=by unfold Ae;rw[List.length_map]
  have av:=Ik hL.out (k:=i) (by rw[aJ];exact hi);rw[au]at av;dsimp only at av;have af:DG (Ae s.cap) val i=Ai*val ho:=by unfold DG;rw[List.getD_eq_getElem?_getD,List.getElem?_eq_getElem (by rw[aJ];exact hi),au];rfl
  have ao:=G3 (Ae s.cap) val pre (⟨i,hi⟩:E7 s.cap.length);dsimp only at ao;rw[af]at ao;have aC:=az.out i hi;rw[af]at aC;have aK:=aB.out pre (by omega);rw[ay]at bX ⊢;dsimp only at bX;have ai:=hB.size;have aH:=bP.lt;have bQ:=hQ.out.below hB;obtain⟨vb,vo,rfl,aw,aL⟩:=(hv.out.below hB (Nat.le_refl _)) (by rw[Ag];omega);obtain⟨v0,v1,v2⟩:=aL ho (by rw[Ag];omega);rw[BB]at v0 v1 v2;clear aL;have q4:(0:Int)<=(ho:Int):=by omega
  have q5:(ho:Int)<(s.ps.length:Int):=by omega
  have al:Hid (∀W2,Below W.heap.size W W2->Env W2):=fun W2 h=>hE.out.below (hB.trans (h.mono ai));have km:Hid (∀W2,Env W2->Calls Tryz.prog 26 #[.agg #[.bool (rq (Ai)).1,.string (rq (Ai)).2.1,.string (rq (Ai)).2.2],.agg #[.bool (rq (val ho)).1,.string (rq (val ho)).2.1,.string (rq (val ho)).2.2]] W2 fun e w'=>e=.returned (.tuple #[.agg #[.bool (rq (Ai*val ho)).1,.string (rq (Ai*val ho)).2.1,.string (rq (Ai*val ho)).2.2],.int .i64 0])/\Below W2.heap.size W2 w'):=fun W2 hW=>Do Ai (val ho) av (aD.out ho aW) W2 hW;have ka:Hid (∀W2,Env W2->Calls Tryz.prog 41 #[.agg #[.bool (rq (E0 (Ae s.cap) val pre)).1,.string (rq (E0 (Ae s.cap) val pre)).2.1,.string (rq (E0 (Ae s.cap) val pre)).2.2],.agg #[.bool (rq (Ai*val ho)).1,.string (rq (Ai*val ho)).2.1,.string (rq (Ai*val ho)).2.2]] W2 fun e w'=>e=.returned (.tuple #[.agg #[.bool (rq (E0 (Ae s.cap) val (pre++[⟨i,hi⟩]))).1,.string (rq (E0 (Ae s.cap) val (pre++[⟨i,hi⟩]))).2.1,.string (rq (E0 (Ae s.cap) val (pre++[⟨i,hi⟩]))).2.2],.int .i64 0])/\Below W2.heap.size W2 w'):=fun W2 hW=>by rw[ao];exact IR _ _ aK aC W2 hW
  have HS:Hid (∀W2,Below W.heap.size W W2->(fun W=>W.cell? ⟨Bx,1,none⟩=some (.int .i64 (ho:Int))/\W.cell? ⟨Bx,2,none⟩=some (.bool (rq (Ai)).1)/\W.cell? ⟨Bx,3,none⟩=some (.string (rq (Ai)).2.1)/\W.cell? ⟨Bx,4,none⟩=some (.string (rq (Ai)).2.2)/\W.cell? ⟨qb,1,none⟩=some (.slice (some ⟨vb,vo,none⟩) s.ps.length cw)/\W.cell? ⟨vb,vo+ho*3,none⟩=some (.bool (rq (val ho)).1)/\W.cell? ⟨vb,vo+ho*3+1,none⟩=some (.string (rq (val ho)).2.1)/\W.cell? ⟨vb,vo+ho*3+2,none⟩=some (.string (rq (val ho)).2.2)) W2):=fun W2 h=>⟨(bX.below h).c1,(bX.below h).c2,(bX.below h).c3,(bX.below h).c4,(bQ.below h).c1,(h.cell (p:=⟨vb,vo+ho*3,none⟩) aw).trans v0,(h.cell (p:=⟨vb,vo+ho*3+1,none⟩) aw).trans v1,(h.cell (p:=⟨vb,vo+ho*3+2,none⟩) aw).trans v2⟩;have hD:Hid (Below W.heap.size W W.drew):=(Below.refl _ _).drew;have aa:Hid (W.heap.size<=W.heap.size):=Nat.le_refl _;replace hB:=zh hB;replace bT:=zh bT;replace bR:=zh bR;replace bP:=zh bP;replace af:=zh af;replace ao:=zh ao;replace au:=zh au;replace ay:=zh ay;replace hr:=zh hr;clear bX bQ v0 v1 v2 aw av aC aK
  gi_wp2
  refine FQ (S:=fun W=>W.cell? ⟨Bx,1,none⟩=some (.int .i64 (ho:Int))/\W.cell? ⟨Bx,2,none⟩=some (.bool (rq (Ai)).1)/\W.cell? ⟨Bx,3,none⟩=some (.string (rq (Ai)).2.1)/\W.cell? ⟨Bx,4,none⟩=some (.string (rq (Ai)).2.2)/\W.cell? ⟨qb,1,none⟩=some (.slice (some ⟨vb,vo,none⟩) s.ps.length cw)/\W.cell? ⟨vb,vo+ho*3,none⟩=some (.bool (rq (val ho)).1)/\W.cell? ⟨vb,vo+ho*3+1,none⟩=some (.string (rq (val ho)).2.1)/\W.cell? ⟨vb,vo+ho*3+2,none⟩=some (.string (rq (val ho)).2.2)) (by kernel_rfl) (by kernel_rfl) (fun⟨_,_,h⟩=>h) (HS.out _ hD.out) (fun aI=>?_);refine B4 (i:=0) (by kernel_rfl) (by kernel_rfl) (by kernel_rfl) (by rfl) (by assumption) (fun oi ho=>?_);simp only[List.getElem?_toArray,List.getElem?_cons_zero,Option.some.injEq]at ho;subst ho;refine⟨?_,fun _ _ _ h=>h,.inl ⟨by rfl,fun W d=>?_⟩,?_⟩;rotate_left
  · (obtain⟨q1,q2,q3,q4,q5,q6,q7,q8⟩:=d;go_simp<;>with_reducible rfl)
  simp only[Act.put,List.setIfInBounds_toArray,List.set_cons_zero,List.set_cons_succ];refine B4 (i:=1) (by kernel_rfl) (by kernel_rfl) (by kernel_rfl) (by rfl) (by assumption) (fun oi ho=>?_);simp only[List.getElem?_toArray,List.getElem?_cons_succ,List.getElem?_cons_zero,Option.some.injEq]at ho;subst ho;refine⟨?_,fun _ _ _ h=>h,.inl ⟨by rfl,fun W d=>?_⟩,?_⟩;rotate_left
  · (obtain⟨q1,q2,q3,q4,q5,q6,q7,q8⟩:=d;go_simp<;>with_reducible rfl)
  simp only[Act.put,List.setIfInBounds_toArray,List.set_cons_zero,List.set_cons_succ];refine B4 (i:=2) (by kernel_rfl) (by kernel_rfl) (by kernel_rfl) (by rfl) (by assumption) (fun oi ho=>?_);simp only[List.getElem?_toArray,List.getElem?_cons_succ,List.getElem?_cons_zero,Option.some.injEq]at ho;subst ho;refine⟨?_,fun _ _ _ h=>h,.inl ⟨by rfl,fun W d=>?_⟩,?_⟩;rotate_left
  · (obtain⟨q1,q2,q3,q4,q5,q6,q7,q8⟩:=d;go_simp<;>with_reducible rfl)
  simp only[Act.put,List.setIfInBounds_toArray,List.set_cons_zero,List.set_cons_succ];refine B4 (i:=3) (by kernel_rfl) (by kernel_rfl) (by kernel_rfl) (by rfl) (by assumption) (fun oi ho=>?_);simp only[List.getElem?_toArray,List.getElem?_cons_succ,List.getElem?_cons_zero,Option.some.injEq]at ho;subst ho;refine⟨?_,fun _ _ _ h=>h,.inl ⟨by rfl,fun W d=>?_⟩,?_⟩;rotate_left
  · (obtain⟨q1,q2,q3,q4,q5,q6,q7,q8⟩:=d;go_simp<;>with_reducible rfl)
  simp only[Act.put,List.setIfInBounds_toArray,List.set_cons_zero,List.set_cons_succ];refine B4 (i:=4) (by kernel_rfl) (by kernel_rfl) (by kernel_rfl) (by rfl) (by assumption) (fun oi ho=>?_);simp only[List.getElem?_toArray,List.getElem?_cons_succ,List.getElem?_cons_zero,Option.some.injEq]at ho;subst ho;refine⟨?_,fun _ _ _ h=>h,.inl ⟨by rfl,fun W d=>?_⟩,?_⟩;rotate_left
  · (obtain⟨q1,q2,q3,q4,q5,q6,q7,q8⟩:=d;go_simp<;>with_reducible rfl)
  simp only[Act.put,List.setIfInBounds_toArray,List.set_cons_zero,List.set_cons_succ];refine B4 (i:=5) (by kernel_rfl) (by kernel_rfl) (by kernel_rfl) (by rfl) (by assumption) (fun oi ho=>?_);simp only[List.getElem?_toArray,List.getElem?_cons_succ,List.getElem?_cons_zero,Option.some.injEq]at ho;subst ho;refine⟨?_,fun _ _ _ h=>h,.inl ⟨by rfl,fun W d=>?_⟩,?_⟩;rotate_left
  · (obtain⟨q1,q2,q3,q4,q5,q6,q7,q8⟩:=d;go_simp<;>with_reducible rfl)
  simp only[Act.put,List.setIfInBounds_toArray,List.set_cons_zero,List.set_cons_succ];refine B4 (i:=6) (by kernel_rfl) (by kernel_rfl) (by kernel_rfl) (by rfl) (by assumption) (fun oi ho=>?_);simp only[List.getElem?_toArray,List.getElem?_cons_succ,List.getElem?_cons_zero,Option.some.injEq]at ho;subst ho;refine⟨?_,fun _ _ _ h=>h,.inl ⟨by rfl,fun W d=>?_⟩,?_⟩;rotate_left
  · (obtain⟨q1,q2,q3,q4,q5,q6,q7,q8⟩:=d;go_simp<;>with_reducible rfl)
  simp only[Act.put,List.setIfInBounds_toArray,List.set_cons_zero,List.set_cons_succ];refine B4 (i:=7) (by kernel_rfl) (by kernel_rfl) (by kernel_rfl) (by rfl) (by assumption) (fun oi ho=>?_);simp only[List.getElem?_toArray,List.getElem?_cons_succ,List.getElem?_cons_zero,Option.some.injEq]at ho;subst ho;refine⟨?_,fun _ _ _ h=>h,.inl ⟨by rfl,fun W d=>?_⟩,?_⟩;rotate_left
  · (obtain⟨q1,q2,q3,q4,q5,q6,q7,q8⟩:=d;go_simp<;>with_reducible rfl)
  simp only[Act.put,List.setIfInBounds_toArray,List.set_cons_zero,List.set_cons_succ];refine wpAnyH_ready (rs:=[8,12]) (by kernel_rfl) (by simp) ?_;refine AllReadyH.cons (o:=_) rfl (fun K hK=>?_) (AllReadyH.cons (o:=_) rfl (fun K hK=>?_) AllReadyH.nil)
  · go_simp;refine(km.out _ (al.out _ hD.out)).mono ?_;rintro e w8 ⟨rfl,hb⟩;have h8:=zh (hD.out.trans (hb.mono hD.out.size));clear hb km;refine hK.out _ _ (HS.out _ h8.out) (fun aq=>?_)
    (try simp only[Act.put,List.setIfInBounds_toArray,List.set_cons_zero,List.set_cons_succ])
    clear aI;refine B4 (i:=9) (by kernel_rfl) (by kernel_rfl) (by kernel_rfl) (by rfl) (by assumption) (fun oi ho=>?_);simp only[List.getElem?_toArray,List.getElem?_cons_succ,List.getElem?_cons_zero,Option.some.injEq]at ho;subst ho;refine⟨?_,fun _ _ _ h=>h,.inl ⟨by rfl,fun W d=>?_⟩,?_⟩;rotate_left
    · (obtain⟨q1,q2,q3,q4,q5,q6,q7,q8⟩:=d;go_simp<;>with_reducible rfl)
    simp only[Act.put,List.setIfInBounds_toArray,List.set_cons_zero,List.set_cons_succ];refine B4 (i:=10) (by kernel_rfl) (by kernel_rfl) (by kernel_rfl) (by rfl) (by assumption) (fun oi ho=>?_);simp only[List.getElem?_toArray,List.getElem?_cons_succ,List.getElem?_cons_zero,Option.some.injEq]at ho;subst ho;refine⟨?_,fun _ _ _ h=>h,.inl ⟨by rfl,fun W d=>?_⟩,?_⟩;rotate_left
    · (obtain⟨q1,q2,q3,q4,q5,q6,q7,q8⟩:=d;go_simp<;>with_reducible rfl)
    simp only[Act.put,List.setIfInBounds_toArray,List.set_cons_zero,List.set_cons_succ];refine B4 (i:=11) (by kernel_rfl) (by kernel_rfl) (by kernel_rfl) (by rfl) (by assumption) (fun oi ho=>?_);simp only[List.getElem?_toArray,List.getElem?_cons_succ,List.getElem?_cons_zero,Option.some.injEq]at ho;subst ho;refine⟨?_,fun _ _ _ h=>h,.inl ⟨by rfl,fun W d=>?_⟩,?_⟩;rotate_left
    · (obtain⟨q1,q2,q3,q4,q5,q6,q7,q8⟩:=d;go_simp<;>with_reducible rfl)
    simp only[Act.put,List.setIfInBounds_toArray,List.set_cons_zero,List.set_cons_succ];refine wpAnyH_ready (rs:=[12]) (by kernel_rfl) (by simp) ?_;refine AllReadyH.cons (o:=_) rfl (fun K hK=>?_) AllReadyH.nil;go_simp;refine hK.out _ _ (by first | (with_reducible exact HS.out _ (h8.out.alloc h8.out.size _)) | (with_reducible exact HS.out _ (((h8.out.setCell aa.out _).setCell aa.out _).setCell aa.out _))) (fun _=>?_)
    (try simp only[Act.put,List.setIfInBounds_toArray,List.set_cons_zero,List.set_cons_succ])
    refine wpAnyH_ready (rs:=[13]) (by kernel_rfl) (by simp) ?_;refine AllReadyH.cons (o:=_) rfl (fun K hK=>?_) AllReadyH.nil;go_simp;refine hK.out _ _ (by first | (with_reducible exact HS.out _ (h8.out.alloc h8.out.size _)) | (with_reducible exact HS.out _ (((h8.out.setCell aa.out _).setCell aa.out _).setCell aa.out _))) (fun _=>?_)
    (try simp only[Act.put,List.setIfInBounds_toArray,List.set_cons_zero,List.set_cons_succ])
    refine B4 (i:=14) (by kernel_rfl) (by kernel_rfl) (by kernel_rfl) (by rfl) (by assumption) (fun oi ho=>?_);simp only[List.getElem?_toArray,List.getElem?_cons_succ,List.getElem?_cons_zero,Option.some.injEq]at ho;subst ho;refine⟨?_,fun _ _ _ h=>h,.inl ⟨by rfl,fun W d=>?_⟩,?_⟩;rotate_left
    · (obtain⟨q1,q2,q3,q4,q5,q6,q7,q8⟩:=d;go_simp<;>with_reducible rfl)
    simp only[Act.put,List.setIfInBounds_toArray,List.set_cons_zero,List.set_cons_succ];refine wpAnyH_done (by kernel_rfl) ?_ _;obtain⟨w9,ae⟩:∃X,X=(w8.alloc (.cells #[.bool (rq (Ai*val ho)).1,.string (rq (Ai*val ho)).2.1,.string (rq (Ai*val ho)).2.2] 40)):=⟨_,rfl⟩;obtain⟨xb,ah⟩:∃x,x=w8.heap.size:=⟨_,rfl⟩;have h9:Hid (Below W.heap.size W w9):=by rw[ae];exact h8.out.alloc h8.out.size _
    have hP:Hid (Bk w9 xb 40 [.bool (rq (Ai*val ho)).1,.string (rq (Ai*val ho)).2.1,.string (rq (Ai*val ho)).2.2]):=by rw[ae,ah];exact Bk.new _ _ _
    rw[<-ae,<-ah];replace ae:=zh ae;replace ah:=zh ah;have bT9:=zh (bT.out.below h9.out);have ax:=zh (al.out _ h9.out);have x0:=bT9.out.c0;have x1:=bT9.out.c1;have x2:=bT9.out.c2;have x9:=bT9.out.lt;have y0:=hP.out.c0;have y1:=hP.out.c1;have y2:=hP.out.c2;have y9:=hP.out.lt;have k9:=zh (ka.out _ ax.out);clear aq HS hD al ka
    gi_wp2_with (refine⟨trivial,?_⟩;refine(CallsIn.inRound l (callsIn_wide.2 k9.out)).mono ?_;rintro e aY ⟨rfl,hb⟩;have bT10:=zh (bT9.out.below hb);have ad:=zh (h9.out.trans (hb.mono h9.out.size));clear hb bT9 hP k9 x0 x1 x2 x9 y0 y1 y2 y9;have x0:=bT10.out.c0;have x1:=bT10.out.c1;have x2:=bT10.out.c2;have x9:=bT10.out.lt;have aZ:=bT10.out.frozen 0;have a0:=bT10.out.frozen 1;have a1:=bT10.out.frozen 2)
    have am:=hB.out.trans (ad.out.mono ai);have ak:w.heap.size+1+1+1≠w.heap.size+1:=by omega
    refine⟨((GH ad.out).from _).trans (((KeepsOthers.setCell _ _ _).trans (KeepsOthers.setCell _ _ _)).trans (KeepsOthers.setCell _ _ _) |>.from _),?_,⟨?_,?_,?_⟩,?_⟩
    · exact((((Kq.refl W).below ad.out ai aH).set (a:=⟨w.heap.size+1,0,none⟩) (by simp) (by show w.heap.size+1+1+1≠w.heap.size+1;omega) _).set (a:=⟨w.heap.size+1,1,none⟩) (by simp) (by show w.heap.size+1+1+1≠w.heap.size+1;omega) _).set (a:=⟨w.heap.size+1,2,none⟩) (by simp) (by show w.heap.size+1+1+1≠w.heap.size+1;omega) _
    · exact Bk.set (Bk.set (Bk.set bT10.out 0 _) 1 _) 2 _
    · exact(((bR.out.below ad.out).far (by simp) _).far (by simp) _).far (by simp) _
    · exact(((bP.out.below ad.out).far ak _).far ak _).far ak _
    · exact((am.setCell (p:=⟨w.heap.size+1,0,none⟩) (by simp) _).setCell (p:=⟨w.heap.size+1,1,none⟩) (by simp) _).setCell (p:=⟨w.heap.size+1,2,none⟩) (by simp) _
  · go_simp;have an:Hid (Below W.heap.size W (W.alloc (.cells #[.bool false,.string ⟨#[]⟩,.string ⟨#[]⟩] 40)).drew):=((Below.refl _ W).alloc (Nat.le_refl _) _).drew;have hZ:Hid (Bk (W.alloc (.cells #[.bool false,.string ⟨#[]⟩,.string ⟨#[]⟩] 40)).drew W.heap.size 40 [.bool false,.string ⟨#[]⟩,.string ⟨#[]⟩]):=(show Bk (W.alloc (.cells #[.bool false,.string ⟨#[]⟩,.string ⟨#[]⟩] 40)) W.heap.size 40 [.bool false,.string ⟨#[]⟩,.string ⟨#[]⟩] from Bk.new _ _ _);refine hK.out _ _ (HS.out _ an.out) (fun aS=>?_)
    (try simp only[Act.put,List.setIfInBounds_toArray,List.set_cons_zero,List.set_cons_succ])
    clear aI;refine wpAnyH_ready (rs:=[8]) (by kernel_rfl) (by simp) ?_;refine AllReadyH.cons (o:=_) rfl (fun K hK=>?_) AllReadyH.nil;go_simp;refine(km.out _ (al.out _ an.out)).mono ?_;rintro e w8 ⟨rfl,hb⟩;have h8:=zh (an.out.trans (hb.mono an.out.size));have aj:=zh (hZ.out.below hb);clear hb km hZ an;have y0:=aj.out.c0;have y1:=aj.out.c1;have y2:=aj.out.c2;have y9:=aj.out.lt;have a2:=aj.out.frozen 0;have a3:=aj.out.frozen 1;have a4:=aj.out.frozen 2;refine hK.out _ _ (HS.out _ h8.out) (fun aq=>?_)
    (try simp only[Act.put,List.setIfInBounds_toArray,List.set_cons_zero,List.set_cons_succ])
    clear aS;refine B4 (i:=9) (by kernel_rfl) (by kernel_rfl) (by kernel_rfl) (by rfl) (by assumption) (fun oi ho=>?_);simp only[List.getElem?_toArray,List.getElem?_cons_succ,List.getElem?_cons_zero,Option.some.injEq]at ho;subst ho;refine⟨?_,fun _ _ _ h=>h,.inl ⟨by rfl,fun W d=>?_⟩,?_⟩;rotate_left
    · (obtain⟨q1,q2,q3,q4,q5,q6,q7,q8⟩:=d;go_simp<;>with_reducible rfl)
    simp only[Act.put,List.setIfInBounds_toArray,List.set_cons_zero,List.set_cons_succ];refine B4 (i:=10) (by kernel_rfl) (by kernel_rfl) (by kernel_rfl) (by rfl) (by assumption) (fun oi ho=>?_);simp only[List.getElem?_toArray,List.getElem?_cons_succ,List.getElem?_cons_zero,Option.some.injEq]at ho;subst ho;refine⟨?_,fun _ _ _ h=>h,.inl ⟨by rfl,fun W d=>?_⟩,?_⟩;rotate_left
    · (obtain⟨q1,q2,q3,q4,q5,q6,q7,q8⟩:=d;go_simp<;>with_reducible rfl)
    simp only[Act.put,List.setIfInBounds_toArray,List.set_cons_zero,List.set_cons_succ];refine B4 (i:=11) (by kernel_rfl) (by kernel_rfl) (by kernel_rfl) (by rfl) (by assumption) (fun oi ho=>?_);simp only[List.getElem?_toArray,List.getElem?_cons_succ,List.getElem?_cons_zero,Option.some.injEq]at ho;subst ho;refine⟨?_,fun _ _ _ h=>h,.inl ⟨by rfl,fun W d=>?_⟩,?_⟩;rotate_left
    · (obtain⟨q1,q2,q3,q4,q5,q6,q7,q8⟩:=d;go_simp<;>with_reducible rfl)
    simp only[Act.put,List.setIfInBounds_toArray,List.set_cons_zero,List.set_cons_succ];refine wpAnyH_ready (rs:=[13]) (by kernel_rfl) (by simp) ?_;refine AllReadyH.cons (o:=_) rfl (fun K hK=>?_) AllReadyH.nil;go_simp;refine hK.out _ _ (by first | (with_reducible exact HS.out _ (h8.out.alloc h8.out.size _)) | (with_reducible exact HS.out _ (((h8.out.setCell aa.out _).setCell aa.out _).setCell aa.out _))) (fun _=>?_)
    (try simp only[Act.put,List.setIfInBounds_toArray,List.set_cons_zero,List.set_cons_succ])
    refine B4 (i:=14) (by kernel_rfl) (by kernel_rfl) (by kernel_rfl) (by rfl) (by assumption) (fun oi ho=>?_);simp only[List.getElem?_toArray,List.getElem?_cons_succ,List.getElem?_cons_zero,Option.some.injEq]at ho;subst ho;refine⟨?_,fun _ _ _ h=>h,.inl ⟨by rfl,fun W d=>?_⟩,?_⟩;rotate_left
    · (obtain⟨q1,q2,q3,q4,q5,q6,q7,q8⟩:=d;go_simp<;>with_reducible rfl)
    simp only[Act.put,List.setIfInBounds_toArray,List.set_cons_zero,List.set_cons_succ];refine wpAnyH_done (by kernel_rfl) ?_ _;clear y0 y1 y2 y9 a2 a3 a4;have aq:=0;obtain⟨w9,ae⟩:∃X,X=((w8.setCell ⟨W.heap.size,0,none⟩ (.bool (rq (Ai*val ho)).1)).setCell ⟨W.heap.size,1,none⟩ (.string (rq (Ai*val ho)).2.1)).setCell ⟨W.heap.size,2,none⟩ (.string (rq (Ai*val ho)).2.2):=⟨_,rfl⟩;obtain⟨xb,ah⟩:∃x,x=W.heap.size:=⟨_,rfl⟩;have h9:Hid (Below W.heap.size W w9):=by rw[ae];exact((h8.out.setCell aa.out _).setCell aa.out _).setCell aa.out _
    have hP:Hid (Bk w9 xb 40 [.bool (rq (Ai*val ho)).1,.string (rq (Ai*val ho)).2.1,.string (rq (Ai*val ho)).2.2]):=by rw[ae,ah];exact((aj.out.set 0 _).set 1 _).set 2 _
    rw[<-ae,<-ah];replace ae:=zh ae;replace ah:=zh ah;have bT9:=zh (bT.out.below h9.out);have ax:=zh (al.out _ h9.out);have x0:=bT9.out.c0;have x1:=bT9.out.c1;have x2:=bT9.out.c2;have x9:=bT9.out.lt;have y0:=hP.out.c0;have y1:=hP.out.c1;have y2:=hP.out.c2;have y9:=hP.out.lt;have k9:=zh (ka.out _ ax.out);clear aq HS hD al ka
    gi_wp2_with (refine⟨trivial,?_⟩;refine(CallsIn.inRound l (callsIn_wide.2 k9.out)).mono ?_;rintro e aY ⟨rfl,hb⟩;have bT10:=zh (bT9.out.below hb);have ad:=zh (h9.out.trans (hb.mono h9.out.size));clear hb bT9 hP k9 x0 x1 x2 x9 y0 y1 y2 y9;have x0:=bT10.out.c0;have x1:=bT10.out.c1;have x2:=bT10.out.c2;have x9:=bT10.out.lt;have aZ:=bT10.out.frozen 0;have a0:=bT10.out.frozen 1;have a1:=bT10.out.frozen 2)
    have am:=hB.out.trans (ad.out.mono ai);have ak:w.heap.size+1+1+1≠w.heap.size+1:=by omega
    refine⟨((GH ad.out).from _).trans (((KeepsOthers.setCell _ _ _).trans (KeepsOthers.setCell _ _ _)).trans (KeepsOthers.setCell _ _ _) |>.from _),?_,⟨?_,?_,?_⟩,?_⟩
    · exact((((Kq.refl W).below ad.out ai aH).set (a:=⟨w.heap.size+1,0,none⟩) (by simp) (by show w.heap.size+1+1+1≠w.heap.size+1;omega) _).set (a:=⟨w.heap.size+1,1,none⟩) (by simp) (by show w.heap.size+1+1+1≠w.heap.size+1;omega) _).set (a:=⟨w.heap.size+1,2,none⟩) (by simp) (by show w.heap.size+1+1+1≠w.heap.size+1;omega) _
    · exact Bk.set (Bk.set (Bk.set bT10.out 0 _) 1 _) 2 _
    · exact(((bR.out.below ad.out).far (by simp) _).far (by simp) _).far (by simp) _
    · exact(((bP.out.below ad.out).far ak _).far ak _).far ak _
    · exact((am.setCell (p:=⟨w.heap.size+1,0,none⟩) (by simp) _).setCell (p:=⟨w.heap.size+1,1,none⟩) (by simp) _).setCell (p:=⟨w.heap.size+1,2,none⟩) (by simp) _
 case done =>
  rintro D ys W hD rfl ⟨⟨bT,bR,_⟩,hB⟩ hK;rw[G4 aA val p _ (Nat.le_refl _),List.take_of_length_le (by unfold Ae;rw[List.length_map];exact Nat.le_refl _)]at bT;have x0:=bT.c0;have x1:=bT.c1;have x2:=bT.c2;have x9:=bT.lt;have r0:=bR.c0;have r1:=bR.c1;have r2:=bR.c2;have r9:=bR.lt;have ba:=bR.frozen 0;have bb:=bR.frozen 1;have bd:=bR.frozen 2;replace hB:=zh hB;replace hK:=zh hK;obtain⟨W2,ar⟩:∃X,X=((W.setCell ⟨w.heap.size,0,none⟩ (.bool (rq (An p val (Ae s.cap))).1)).setCell ⟨w.heap.size,1,none⟩ (.string (rq (An p val (Ae s.cap))).2.1)).setCell ⟨w.heap.size,2,none⟩ (.string (rq (An p val (Ae s.cap))).2.2):=⟨_,rfl⟩;have aN:Hid (Below w.heap.size w W2):=by rw[ar];exact((hB.out.setCell (p:=⟨w.heap.size,0,none⟩) (Nat.le_refl _) _).setCell (p:=⟨w.heap.size,1,none⟩) (Nat.le_refl _) _).setCell (p:=⟨w.heap.size,2,none⟩) (Nat.le_refl _) _
  have aQ:Hid (Bk W2 w.heap.size 40 [.bool (rq (An p val (Ae s.cap))).1,.string (rq (An p val (Ae s.cap))).2.1,.string (rq (An p val (Ae s.cap))).2.2]):=by rw[ar];exact Bk.set (Bk.set (Bk.set bR 0 _) 1 _) 2 _
  have aF:Hid (W2.heap[D]? = some (.deferred (some []))):=by
   rw[ar];exact(((KeepsOthers.setCell _ _ _).trans (KeepsOthers.setCell _ _ _)).trans (KeepsOthers.setCell _ _ _)).same D _ hK.out rfl
  go_wp2
  (try rw[<-ar])
  refine⟨by simp,.inl ⟨_,_,rfl,run_takeDeferred aF.out,?_⟩⟩;have aX:w.heap.size≠D:=by omega
  have bR3:Bk (W2.putObj D (.deferred none)) w.heap.size 40 [.bool (rq (An p val (Ae s.cap))).1,.string (rq (An p val (Ae s.cap))).2.1,.string (rq (An p val (Ae s.cap))).2.2]:=aQ.out.grown (grownBy_putObj' W2 D _) (fun e=>by cases e;exact aX rfl);have s0:=bR3.c0;have s1:=bR3.c1;have s2:=bR3.c2;refine⟨.agg #[.bool (rq (An p val (Ae s.cap))).1,.string (rq (An p val (Ae s.cap))).2.1,.string (rq (An p val (Ae s.cap))).2.2],?_,rfl,aN.out.trans (belowK_b (w:=w) (Nat.le_refl _) W2 D _ _ (by omega) aF.out rfl rfl)⟩;simp[results,Tryz.results39,go_sem,s0,s1,s2]
 case stop =>
  rintro D c pre W _ _ h _;exact h.elim
end Bd
end
section
namespace Bd
open Nt Ci Sh
section
variable {n:Nat} {L:List Lp} {F:List Nat}
def Abv (n:Nat) (L:List Lp) (F:List Nat) (v:Nat->Rat):Prop:=∀p,p<n->0<=v p/\(p∈F->1<=v p)/\(p∉F->An p v L<=v p)
def RU (L:List Lp) (F:List Nat) (v:Nat->Rat) (r:Nat->Int) (p:Nat):Prop :=
 (v p=0->r p=-1)/\(v p≠0->p∈F->r p=0/\v p<=1)/\(v p≠0->p∉F->1<=r p/\v p<=An p v L/\∃x,x∈L/\x.1=p/\0<=r x.2.1/\r x.2.1<r p/\v x.2.1≠0)
def Blw (n:Nat) (L:List Lp) (F:List Nat) (v:Nat->Rat) (r:Nat->Int):Prop:=∀p,p<n->0<=v p/\RU L F v r p
theorem Blw.le1 {v:Nat->Rat} {r:Nat->Int} (h:Blw n L F v r):∀p,p<n->p∈F->v p<=1:=fun p hp hF=>by
 by_cases c:v p=0
 · rw[c];decide
 · exact((h p hp).2.2.1 c hF).2
theorem Abv.double {v u:Nat->Rat} (hL:Caps n L) (h:Abv n L F v) (hu:∀p,p<n->u p=v p*2):Abv n L F u:=fun p hp=>by
 obtain⟨h1,h2,h3⟩:=h p hp;rw[CK (g:=fun q=>2*v q) fun x hx _=>by rw[hu _ (hL.lt x hx).2,Rat.mul_comm],EJ,hu p hp];exact⟨by grind,fun c=>by have:=h2 c;grind,fun c=>by have:=h3 c;grind⟩
theorem Blw.halve {v u:Nat->Rat} {r:Nat->Int} (hL:Caps n L) (h:Blw n L F v r) (hu:∀p,p<n->u p=v p*(1/2)):Blw n L F u r:=fun p hp=>by
 obtain⟨h1,h2,h3,h4⟩:=h p hp;have hz:∀q,q<n->(u q=0↔v q=0):=fun q hq=>by rw[hu q hq];constructor<;>intro c<;>grind
 unfold RU;rw[CK (g:=fun q=>(1/2)*v q) fun x hx _=>by rw[hu _ (hL.lt x hx).2,Rat.mul_comm],EJ];refine⟨by rw[hu p hp];grind,fun c=>h2 ((hz p hp).1 c),fun c hF=>?_,fun c hF=>?_⟩
 · obtain⟨a,b⟩:=h3 (fun d=>c ((hz p hp).2 d)) hF;exact⟨a,by rw[hu p hp];grind⟩
 · obtain⟨a,b,x,x1,x2,x3,x4,x5⟩:=h4 (fun d=>c ((hz p hp).2 d)) hF;exact⟨a,by rw[hu p hp];grind,x,x1,x2,x3,x4,fun d=>x5 ((hz _ (hL.lt x x1).2).1 d)⟩
end
theorem isI_dvd {x:Rat} {D:Nat} (h:x.den∣D):IsI ((D:Rat)*x):=by
 obtain⟨k,rfl⟩:=h;have hq:=Rat.mkRat_self x;rw[Rat.mkRat_eq_div]at hq
 have hd:(x.den:Rat)≠0:=by
  have:(0:Rat)<(x.den:Rat):=Rat.natCast_pos.2 x.den_pos;grind
 refine⟨k*x.num,?_⟩;rw[Rat.natCast_mul,Rat.intCast_mul,Rat.intCast_natCast];rw[Rat.div_def]at hq;have hi:=Rat.mul_inv_cancel _ hd;generalize (x.den:Rat)=D at *;generalize (x.num:Rat)=N at *;rw[<-hq];have e:D*(k:Rat)*(N*D⁻¹)=(k:Rat)*N*(D*D⁻¹):=by grind
 rw[e,hi];grind
structure Fits (M n:Nat) (v:Nat->Rat) (D:Nat):Prop where
 dp:0<D
 dm:D<M
 nn:∀p,p<n->0<=v p
 num:∀p,p<n->(v p).num.natAbs<M
 dvd:∀p,p<n->(v p).den∣D
theorem Ps {x:Rat} {M:Nat} (_:0<=x) (h:x.num.natAbs<M):x<=(M:Rat):=by
 rw[Rat.le_iff];have e1:((M:Nat):Rat).num=M:=Rat.num_natCast M;have e2:((M:Nat):Rat).den=1:=Rat.den_natCast M;rw[e1,e2];have hd:=x.den_pos;have:(M:Int)*1<=(M:Int)*(x.den:Int):=Int.mul_le_mul_of_nonneg_left (by omega) (by omega);omega
theorem Vs {x:Rat} {c d:Nat} (hd:0<d) (h0:0<=x) (h1:x<=(c:Rat)) (hi:IsI ((d:Rat)*x)):x.num.natAbs<=c*d/\x.den<=d:=by
 obtain⟨z,hz⟩:=hi
 have hdr:(d:Rat)≠0:=by
  have:(0:Rat)<(d:Rat):=Rat.natCast_pos.2 hd;grind
 have e:x=mkRat z d:=by
  rw[Rat.mkRat_eq_div,<-hz,Rat.div_def];have:=Rat.mul_inv_cancel _ hdr;grind
 have a:x.den∣d:=by
  rw[e,Rat.den_mkRat,if_neg (by omega)];exact Nat.div_dvd_of_dvd (Nat.gcd_dvd_left _ _)
 have h:=Nat.le_of_dvd hd a;refine⟨?_,h⟩;have h2:=(Rat.le_iff _ _).1 h1;have e1:((c:Nat):Rat).num=c:=Rat.num_natCast c;have e2:((c:Nat):Rat).den=1:=Rat.den_natCast c;rw[e1,e2]at h2;have h3:=Rat.num_nonneg.2 h0
 have h4:x.num.natAbs<=c*x.den:=by
  have:((c*x.den:Nat):Int)=(c:Int)*(x.den:Int):=Int.natCast_mul ..;omega
 exact Nat.le_trans h4 (Nat.mul_le_mul_left _ h)
theorem Fits.sum {M n D:Nat} {L:List Lp} {v:Nat->Rat} (h:Fits M n v D) (hL:Caps n L) (p k:Nat):(An p v (L.take k)).num.natAbs<=M*(6000*M)/\(An p v (L.take k)).den<=6000*M:=by
 have hT:=hL.take k;have h0:=BU (p:=p) (f:=v) hT.pos fun x hx _=>h.nn _ (hT.lt x hx).2;have h1:An p v (L.take k)<=(M:Rat):=hT.le_of (Rat.natCast_nonneg) fun x hx _=>Ps (h.nn _ (hT.lt x hx).2) (h.num _ (hT.lt x hx).2);have h2:=hT.int_sum (p:=p) (f:=v) (D:=(D:Rat)) fun x hx _=>isI_dvd (h.dvd _ (hT.lt x hx).2);have h3:IsI (((6000*D:Nat):Rat)*An p v (L.take k)):=by rw[Rat.natCast_mul];exact h2
 obtain⟨a,b⟩:=Vs (Nat.mul_pos (by omega) h.dp) h0 h1 h3;have hm:6000*D<=6000*M:=Nat.mul_le_mul_left _ (Nat.le_of_lt h.dm);exact⟨Nat.le_trans a (Nat.mul_le_mul_left _ hm),Nat.le_trans b hm⟩
end Bd
end
section
namespace Bd
open Nt Ci Sh
def BJ (V:List Raw) (p:Nat):Rat:=if p<V.length then vq (V.getD p zraw) else 0
structure FitV (val:Nat->Rat) (D:Nat):Prop where
 nn:∀p,0<=val p
 dp:0<D
 dlt:D<10^65
 num:∀p,(val p).num.natAbs<10^65
 whole:∀p,IsI ((D:Rat)*val p)
theorem RV {m d:Nat} (hm:0<m):m∣Bc m d/\d∣Bc m d:=by
 unfold Bc;refine⟨Nat.dvd_mul_right _ _,?_⟩;have hg:=Nat.gcd_pos_of_pos_left d hm;obtain⟨a,ha⟩:=Nat.gcd_dvd_left m d;obtain⟨b,hb⟩:=Nat.gcd_dvd_right m d;generalize Nat.gcd m d=g at *;have e1:d/g=b:=by rw[hb,Nat.mul_div_cancel_left _ hg]
 rw[e1];exact⟨a,by rw[ha,hb];rw[Nat.mul_assoc,Nat.mul_assoc,Nat.mul_comm a b]⟩
theorem Lg:∀(l:List Raw) (m:Nat),0<m->m<10^65->Ew m l=true->(∀x,x∈l->DA x=true/\x.1=false/\x.2.1.size<=65/\x.2.2.size<=65)/\∃D,0<D/\D<10^65/\m∣D/\∀x,x∈l->(vq x).den∣D
 | [],m,hm,a,_=>⟨fun _ h=>(by cases h),m,hm,a,Nat.dvd_refl _,fun _ h=>(by cases h)⟩
 | x :: t,m,hm,a,h=>by
   rw[Gu]at h;simp only[Bool.and_eq_true,decide_eq_true_eq,Bool.not_eq_true']at h;obtain⟨h1,h2,h3,h4,h5,h6⟩:=h;obtain⟨i1,D,d1,d2,d3,d4⟩:=Lg t (Bc m (vq x).den) (Gv hm (vq x).den_pos) ((Cr (by decide)).1 h5) h6;have hn:=RV (d:=(vq x).den) hm;refine⟨fun y hy=>?_,D,d1,d2,Nat.dvd_trans hn.1 d3,fun y hy=>?_⟩
   · rcases List.mem_cons.1 hy with rfl | hy
     · exact⟨h1,h2,h3,h4⟩
     · exact i1 y hy
   · rcases List.mem_cons.1 hy with rfl | hy
     · exact Nat.dvd_trans hn.2 d3
     · exact d4 y hy
theorem JU {V:List Raw} {p:Nat} (h:p<V.length):BJ V p=vq V[p]:=by
 unfold BJ;rw[if_pos h,List.getD_eq_getElem?_getD,List.getElem?_eq_getElem h];rfl
theorem CN {V:List Raw} (h:Cg V=true):V=AN V.length (BJ V)/\∃D,FitV (BJ V) D:=by
 obtain⟨h1,D,d1,d2,_,d4⟩:=Lg V 1 (by decide) (Nat.one_lt_pow (by decide) (by decide)) h;have hx:∀p (hp:p<V.length),rq (BJ V p)=V[p]:=fun p hp=>by rw[JU hp];exact(EF (h1 _ (List.getElem_mem hp)).1).1
 refine⟨List.ext_getElem (Ag _ _).symm fun i hi h2=>?_,D,fun p=>?_,d1,d2,fun p=>?_,fun p=>?_⟩
 · rw[BB,hx i hi]
 · by_cases hp:p<V.length
   · have e:(rq (BJ V p)).1=false:=by rw[hx p hp];exact(h1 _ (List.getElem_mem hp)).2.1
     have e2:¬(BJ V p).num<0:=of_decide_eq_false e;exact Rat.num_nonneg.1 (by omega)
   · rw[show BJ V p=0 from if_neg hp];exact Rat.le_refl
 · by_cases hp:p<V.length
   · have e:(T (some (BJ V p).num.natAbs))=V[p].2.1:=congrArg (·.2.1) (hx p hp);exact(Cr (by decide)).1 (by rw[e];exact(h1 _ (List.getElem_mem hp)).2.2.1)
   · rw[show BJ V p=0 from if_neg hp];exact Nat.pow_pos (by decide)
 · by_cases hp:p<V.length
   · rw[JU hp];exact isI_dvd (d4 _ (List.getElem_mem hp))
   · rw[show BJ V p=0 from if_neg hp,Rat.mul_zero];exact IsI.zero
theorem FitV.dg {val:Nat->Rat} {D:Nat} (h:FitV val D) (p:Nat):Dg 65 (val p) :=
 ⟨h.num p,Nat.lt_of_le_of_lt (Nat.le_of_dvd h.dp (Hh h.dp (h.whole p))) h.dlt⟩
theorem FitV.short {val:Nat->Rat} {D:Nat} (h:FitV val D) (p:Nat):ShortQ (val p):=(h.dg p).short (by decide)
theorem TW {q:Rat} (h:Fit 6000 q):Dg 4 q:=by
 obtain⟨h1,h2,d,d1,d2,d3⟩:=h;have hd:q.den<=6000:=Nat.le_trans (Nat.le_of_dvd d1 (Hh d1 d3)) d2;have b:=(Rat.le_iff _ _).1 h2;have c:=(Rat.le_iff _ _).1 h1;have e3:(1:Rat).num=1:=rfl;have e4:(1:Rat).den=1:=rfl;have e5:(-1:Rat).num=-1:=rfl;have e6:(-1:Rat).den=1:=rfl;rw[e3,e4]at b;rw[e5,e6]at c;exact⟨by show q.num.natAbs<10^4;omega,by show q.den<10^4;omega⟩
theorem Vt {val:Nat->Rat} {D:Nat} (h:FitV val D) (p:Nat):val p<=((10^65:Nat):Rat):=by
 rw[Rat.le_iff];have e3:((10^65:Nat):Rat).num=((10^65:Nat):Int):=rfl;have e4:((10^65:Nat):Rat).den=1:=rfl;rw[e3,e4];have h1:=h.num p;have h2:=(val p).den_pos;have h3:(val p).num<=((10^65:Nat):Int):=by omega
 have h4:((10^65:Nat):Int)*1<=((10^65:Nat):Int)*((val p).den:Int):=Int.mul_le_mul_of_nonneg_left (by omega) (by omega);omega
theorem RW {q:Rat} {B d:Nat} (h0:0<=q) (hB:q<=(B:Rat)) (hd:0<d) (hi:IsI ((d:Rat)*q)) (h1:B*d<L1) (h2:d<L1):ShortQ q:=by
 have h3:=Nat.le_of_dvd hd (Hh hd hi);have b:=(Rat.le_iff _ _).1 hB;have e3:((B:Nat):Rat).num=(B:Int):=rfl;have e4:((B:Nat):Rat).den=1:=rfl;rw[e3,e4]at b;have c:=Rat.num_nonneg.2 h0;have h4:B*q.den<=B*d:=Nat.mul_le_mul_left _ h3;have h5:((B*q.den:Nat):Int)=(B:Int)*(q.den:Int):=by push_cast;rfl
 exact⟨by omega,by omega⟩
theorem NQ:300*10^65*(6000*10^65)<L1:=by
 have e:L1=10^140:=by unfold L1;rw[DO]
 rw[e]
 have h:300*10^65*(6000*10^65)=1800000*10^130:=by
  rw[show (10:Nat)^130=10^65*10^65 by rw[<-Nat.pow_add]]
 rw[h,show (10:Nat)^140=10^10*10^130 by rw[<-Nat.pow_add]];exact Nat.mul_lt_mul_of_pos_right (by decide) (Nat.pow_pos (by decide))
section
variable {s:SR} {val:Nat->Rat} {D:Nat}
theorem JW (a:At s=true) (h:FitV val D) {i:Nat} (hi:i<s.cap.length):0<=DG (Ae s.cap) val i/\DG (Ae s.cap) val i<=((10^65:Nat):Rat)/\IsI (((6000*D:Nat):Rat)*DG (Ae s.cap) val i)/\ShortQ (DG (Ae s.cap) val i):=by
 have hL:=Cl a;have d:(Ae s.cap).length=s.cap.length:=by unfold Ae;rw[List.length_map]
 have hk:i<(Ae s.cap).length:=by omega
 have e:DG (Ae s.cap) val i=(Ae s.cap)[i].2.2*val (Ae s.cap)[i].2.1:=by
  unfold DG;rw[List.getD_eq_getElem?_getD,List.getElem?_eq_getElem hk];rfl
 rw[e];have hf:=FW hL hk;have h0:=hL.pos _ (List.getElem_mem hk);have h2:=h.nn (Ae s.cap)[i].2.1;have h3:=Vt h (Ae s.cap)[i].2.1;have hw:=(hL.whole _ (List.getElem_mem hk)).mul (h.whole (Ae s.cap)[i].2.1);generalize (Ae s.cap)[i].2.2=pt at *;have hd:=h.dg (Ae s.cap)[i].2.1;generalize val (Ae s.cap)[i].2.1=v at *;refine⟨Rat.mul_nonneg (Rat.le_of_lt h0) h2,?_,?_,((TW hf).mul hd).short (by decide)⟩
 · have h5:=Rat.mul_le_mul_of_nonneg_right hf.2.1 h2;rw[Rat.one_mul]at h5;grind
 · have e2:6000*pt*((D:Rat)*v)=((6000*D:Nat):Rat)*(pt*v):=by
    rw[Rat.natCast_mul,show ((6000:Nat):Rat)=6000 from rfl];grind
   rw[e2]at hw;exact hw
theorem NR (d:At s=true) (h:FitV val D):∀(k:Nat) (pre:List (E7 s.cap.length)),pre.length=k->0<=E0 (Ae s.cap) val pre/\E0 (Ae s.cap) val pre<=((k*10^65:Nat):Rat)/\IsI (((6000*D:Nat):Rat)*E0 (Ae s.cap) val pre)
 | 0,pre,hl=>by
   rw[List.length_eq_zero_iff.1 hl];refine⟨Rat.le_refl,by rw[Nat.zero_mul];exact Rat.le_refl,?_⟩
   show IsI (((6000*D:Nat):Rat)*0)
   rw[Rat.mul_zero];exact IsI.zero
 | k + 1,pre,hl=>by
   have a:pre≠[]:=fun e=>by rw[e]at hl;cases hl
   have e:=List.dropLast_concat_getLast a;obtain⟨a1,a2,a3⟩:=NR d h k pre.dropLast (by rw[List.length_dropLast];omega);obtain⟨b1,b2,b3,_⟩:=JW d h (pre.getLast a).2;rw[<-e,G3];generalize E0 (Ae s.cap) val pre.dropLast=x at *;generalize DG (Ae s.cap) val (pre.getLast a).1=y at *;refine⟨Rat.add_nonneg a1 b1,?_,?_⟩
   · rw[Nat.add_mul,Nat.one_mul,Rat.natCast_add];grind
   · rw[Rat.mul_add];exact a3.add b3
theorem FA (a:At s=true) (d:s.cap.length<=300) (h:FitV val D) (pre:List (E7 s.cap.length)) (hp:pre.length<=s.cap.length):ShortQ (E0 (Ae s.cap) val pre):=by
 obtain⟨a1,a2,a3⟩:=NR a h _ pre rfl;have hD:=h.dlt;have h1:pre.length*10^65<=300*10^65:=Nat.mul_le_mul_right _ (by omega);have h2:6000*D<=6000*10^65:=Nat.mul_le_mul_left _ (by omega);have h3:pre.length*10^65*(6000*D)<L1:=Nat.lt_of_le_of_lt (Nat.mul_le_mul h1 h2) NQ;have h4:6000*D<L1:=Nat.lt_of_le_of_lt (Nat.le_trans h2 (Nat.le_mul_of_pos_left _ (Nat.mul_pos (by decide) (Nat.pow_pos (by decide))))) NQ;exact RW a1 a2 (Nat.mul_pos (by decide) h.dp) a3 h3 h4
theorem Lh (a:At s=true) (d:s.cap.length<=300) (h:FitV val D) (p:Nat):ShortQ (An p val (Ae s.cap)):=by
 have e:=G4 a val p s.cap.length (Nat.le_refl _);rw[List.take_of_length_le (by unfold Ae;rw[List.length_map];exact Nat.le_refl _)]at e;rw[<-e];exact FA a d h _ (Fn _ _ _)
end
end Bd
end
section
open Go.RowKit Go.Shelf
namespace Bd
open Nt Ci Sh
theorem RX (g1 g2:Bool) (n1 d1 n2 d2:ByteArray) (c f:Int) (w:World) (hE:Env w)
 (hk:∀W,Env W->Calls Tryz.prog 57 #[.agg #[.bool g1,.string n1,.string d1],.agg #[.bool g2,.string n2,.string d2]] W fun e w'=>e=.returned (.tuple #[.int .i64 c,.int .i64 f])/\Below W.heap.size W w') :
 Calls Tryz.prog 43 #[.agg #[.bool g1,.string n1,.string d1],.agg #[.bool g2,.string n2,.string d2]] w fun e w'=>e=.returned (.bool (decide (f=0)&&decide (c<=0)))/\Below w.heap.size w w':=by
 have a:Hid (Below w.heap.size w ((w.alloc (.cells #[.bool g1,.string n1,.string d1] 40)).alloc (.cells #[.bool g2,.string n2,.string d2] 40))):=(((Below.refl _ w).alloc (Nat.le_refl _) _).alloc (by simp) _);have d:Hid (Bk ((w.alloc (.cells #[.bool g1,.string n1,.string d1] 40)).alloc (.cells #[.bool g2,.string n2,.string d2] 40)) (w.heap.size) 40 [.bool g1,.string n1,.string d1]):=by have h:=Bk.new w 40 [.bool g1,.string n1,.string d1];have h:=h.alloc (.cells #[.bool g2,.string n2,.string d2] 40); exact h
 have aa:Hid (Bk ((w.alloc (.cells #[.bool g1,.string n1,.string d1] 40)).alloc (.cells #[.bool g2,.string n2,.string d2] 40)) (w.heap.size+1) 40 [.bool g2,.string n2,.string d2]):=by have h:=Bk.new (w.alloc (.cells #[.bool g1,.string n1,.string d1] 40)) 40 [.bool g2,.string n2,.string d2];simp only[World.size_alloc]at h;exact h
 have k1:=zh (hk ((w.alloc (.cells #[.bool g1,.string n1,.string d1] 40)).alloc (.cells #[.bool g2,.string n2,.string d2] 40)) (hE.below a.out));clear hk;have x0:=d.out.c0;have x1:=d.out.c1;have x2:=d.out.c2;have x9:=d.out.lt;have y0:=aa.out.c0;have y1:=aa.out.c1;have y2:=aa.out.c2;have y9:=aa.out.lt
 by_cases hf:f=0
 · subst hf;rw[show (decide ((0:Int)=0)&&decide (c<=0))=decide (c<=0) by simp]
   cases hc:decide (c<=0) with
   | true =>
     go_enter Tryz.func43,Tryz.ntmps43
     go_wp2_with fail
     refine k1.out.mono ?_;rintro e w3 ⟨rfl,hb⟩;have ad:=zh (a.out.trans (hb.mono a.out.size));have ae:=zh (d.out.below hb);have af:=zh (aa.out.below hb);clear hb a d aa k1 x0 x1 x2 x9 y0 y1 y2 y9;go_wp2;go_ret;exact⟨rfl,ad.out⟩
   | false =>
     go_enter Tryz.func43,Tryz.ntmps43
     go_wp2_with fail
     refine k1.out.mono ?_;rintro e w3 ⟨rfl,hb⟩;have ad:=zh (a.out.trans (hb.mono a.out.size));have ae:=zh (d.out.below hb);have af:=zh (aa.out.below hb);clear hb a d aa k1 x0 x1 x2 x9 y0 y1 y2 y9;go_wp2;go_ret;exact⟨rfl,ad.out⟩
 · have m1:(f==0)=false:=by rw[beq_eq_false_iff_ne];exact hf
   rw[decide_eq_false hf];replace hf:=zh hf;go_enter Tryz.func43,Tryz.ntmps43
   go_wp2_with fail
   refine k1.out.mono ?_;rintro e w3 ⟨rfl,hb⟩;have ad:=zh (a.out.trans (hb.mono a.out.size));have ae:=zh (d.out.below hb);have af:=zh (aa.out.below hb);clear hb a d aa k1 x0 x1 x2 x9 y0 y1 y2 y9;go_wp2;go_ret;exact⟨rfl,ad.out⟩
theorem BY (p q:Rat) (hp:ShortQ p) (hq:ShortQ q) (w:World) (hE:Env w) :
 Calls Tryz.prog 43 #[.agg #[.bool (rq (p)).1,.string (rq (p)).2.1,.string (rq (p)).2.2],.agg #[.bool (rq (q)).1,.string (rq (q)).2.1,.string (rq (q)).2.2]] w fun e w'=>e=.returned (.bool (decide (p<=q)))/\Below w.heap.size w w':=by
 have h:=RX _ _ _ _ _ _ _ _ w hE (fun W hW=>I7 p q hp hq W hW);rw[TS]at h;exact h
end Bd
end
end Go.Proofs.YtilodknkildkbaaGreatDoor

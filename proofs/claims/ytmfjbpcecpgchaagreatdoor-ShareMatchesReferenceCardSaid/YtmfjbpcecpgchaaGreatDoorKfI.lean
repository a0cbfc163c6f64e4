/- Parts of the proof. -/
import Derived.Test.YtmfjbpcecpgchaaGreatDoorKfH
set_option maxHeartbeats 32000000
set_option maxRecDepth 1000000
open Go.Proofs.Tryz
namespace Go.Proofs.YtmfjbpcecpgchaaGreatDoor
theorem tkfI{P:Program}{md:Region.Mode}{ops:Array Oper}{Q:Exit->Act->World->Prop}{S:World->Prop}{oi:Oper}{v:Value}{fuel:Nat}{listed:Array Bool}{a:Act}{w:World}(i:Nat)(hi:ops[i]?=some oi)(hS:S w)(hy:YieldsIf P ops S oi v a)(h:wpAnyH P md ops Q S fuel (listed.setIfInBounds i true) (a.put oi.dst v) w)(hs:Region.noSelect ops=true:=by kernel_rfl)(hf:Region.free md ops listed i=true:=by kernel_rfl)(hr:(Region.ready md ops listed).contains i=true:=by kernel_rfl)(hQ:∀c a w,Q (.panic c) (a.put oi.dst v) w->Q (.panic c) a w:=by exact fun _ _ _ h=>h):wpAnyH P md ops Q S (fuel+1) listed a w:=yp hi hs hf hr hQ hy hS h
section
open Go.RowKit Go.Shelf
namespace Sh
open Nt Ci
theorem KB{W:World}{b:Nat}{t:TypeId}{u0 u1 u2:Value}(h:Bk W b t [u0,u1,u2])(v0 v1 v2:Value):
 Bk (((W.setCell ⟨b,0,none⟩ v0).setCell ⟨b,1,none⟩ v1).setCell ⟨b,2,none⟩ v2) b t [v0,v1,v2]:=((h.set 0 v0).set 1 v1).set 2 v2
theorem GN{w W:World}{x:Nat}(h:Below w.heap.size w W)(hx:w.heap.size<=x)(v0 v1 v2:Value):
 Below w.heap.size w (((W.setCell ⟨x,0,none⟩ v0).setCell ⟨x,1,none⟩ v1).setCell ⟨x,2,none⟩ v2) :=
 ((h.setCell (p:=⟨x,0,none⟩) hx v0).setCell (p:=⟨x,1,none⟩) hx v1).setCell (p:=⟨x,2,none⟩) hx v2
noncomputable def reR(j:Nat):Code:=((Tryz.f14.body.map Ci.Bt).bind fun l=>l.find? (Ny j)).getD .skip
theorem Xb{c0 c1 c2 c3 c4 c5 c6 c7 c8 c9 cB cC cD cE cF cG cH cI cJ cK cL cM cN cP cR cS cT cU cV cW cX cY cZ da db dc dd de df dg dh di dj dk dl dq dr ds dt du dw dx dy dz dA dB dC dD dE dF dG dH dI dJ dK dL dM dN dO dP dQ dR dS dT dU dV dW dX dY dZ d0 d4 d5 d6 d7 d8 d9 ea eb ec ed ee ef eg eh ei ak al am an ao aq ar au av aw ax ay az aA aB aC aD aE aF aG aH aI aJ aK aL aM aN aO aP aQ aR aS aT aU aV aW aX aY aZ a0 a1 a2 a3 a4 a5 a6 a7 a8 a9 ba bb bc bd be bf bg bh bi bj bk bm bn bo bp bq br bs bt bu bv bx bz bA bB bC bD bE bF bG bH bI bJ bK bL bM bN bO bP bQ bR bS bT bU bW bX bY bZ b0 b1 b2 b3 b4 b5 b6 b7 b8 b9 cc cd ce cf cg ch ci cj ck cl cm el em co cq cr ct cu cv cw cx cy cz cA:Value}{Q:Exit->Act->World->Prop}(lb ob n p:Nat)(g1 g2 g3:Bool)(n1 n2 n3 d1 d2 d3:ByteArray)(w:World)(HS:∀W,Below w.heap.size w W->(fun W=>W.cell? ⟨lb,1,none⟩=some (.int .i64 (p:Int))/\W.cell? ⟨lb,2,none⟩=some (.bool g1)/\W.cell? ⟨lb,3,none⟩=some (.string n1)/\W.cell? ⟨lb,4,none⟩=some (.string d1)/\W.cell? ⟨ob,p*3,none⟩=some (.bool g2)/\W.cell? ⟨ob,p*3+1,none⟩=some (.string n2)/\W.cell? ⟨ob,p*3+2,none⟩=some (.string d2)) W)(eo:p<n)(km:∀W,Calls prog 55 #[.agg #[.bool g1,.string n1,.string d1],.agg #[.bool g2,.string n2,.string d2]] W fun e w'=>e=.returned (.tuple #[.agg #[.bool g3,.string n3,.string d3],.int .i64 0])/\Below W.heap.size W w')
 (h:∀(u175 u176 u177 u178 u179 u180 u181 u182 u183 u184 u185:Value)(W:World)(xb:Nat)(_:Hid (Bk W xb 34 [.bool g3,.string n3,.string d3]))(_:Hid (Below w.heap.size w W))(_:Hid (w.heap.size<=xb)),Q .normal ⟨#[c0,c1,c2,c3,c4,c5,c6,c7,c8,c9,cB,.slice (some ⟨ob,0,none⟩) n n,cC,cD,cE,cF,cG,cH,cI,cJ,cK,cL,cM,cN,.pointer (some ⟨lb,0,none⟩),cP,.pointer (some ⟨xb,0,none⟩),.int .i64 0,cR,cS,cT,cU,cV,cW,cX,cY,cZ,da,db,dc,dd,de,df,dg,dh,di,dj,dk,dl,dq,dr,ds,dt,du,dw,dx,dy,dz,dA,dB,dC,dD,dE,dF,dG,dH,dI,dJ,dK,dL,dM,dN,dO,dP,dQ,dR,dS,dT,dU,dV,dW,dX,dY,dZ,d0,d4,d5,d6,d7,d8,d9,ea,eb,ec,ed,ee,ef,eg,eh,ei,ak,al,am,an,ao,aq,ar,au,av,aw,ax,ay,az,aA,aB,aC,aD,aE,aF,aG,aH,aI,aJ,aK,aL,aM,aN,aO,aP,aQ,aR,aS,aT,aU,aV,aW,aX,aY,aZ,a0,a1,a2,a3,a4,a5,a6,a7,a8,a9,ba,bb,bc,bd,be,bf,bg,bh,bi,bj,bk,bm,bn,bo,bp,bq,br,bs,bt,bu,bv,bx,bz,bA,bB,bC,u175,u176,u177,u178,u179,u180,u181,u182,u183,u184,u185,bD,bE,bF,bG,bH,bI,bJ,bK,bL,bM,bN,bO,bP,bQ,bR,bS,bT,bU,bW,bX,bY,bZ,b0,b1,b2,b3,b4,b5,b6,b7,b8,b9,cc,cd,ce,cf,cg,ch,ci,cj,ck,cl,cm],[]⟩ W):
 Code.wp prog (reR 48) Q ⟨#[c0,c1,c2,c3,c4,c5,c6,c7,c8,c9,cB,.slice (some ⟨ob,0,none⟩) n n,cC,cD,cE,cF,cG,cH,cI,cJ,cK,cL,cM,cN,.pointer (some ⟨lb,0,none⟩),cP,el,em,cR,cS,cT,cU,cV,cW,cX,cY,cZ,da,db,dc,dd,de,df,dg,dh,di,dj,dk,dl,dq,dr,ds,dt,du,dw,dx,dy,dz,dA,dB,dC,dD,dE,dF,dG,dH,dI,dJ,dK,dL,dM,dN,dO,dP,dQ,dR,dS,dT,dU,dV,dW,dX,dY,dZ,d0,d4,d5,d6,d7,d8,d9,ea,eb,ec,ed,ee,ef,eg,eh,ei,ak,al,am,an,ao,aq,ar,au,av,aw,ax,ay,az,aA,aB,aC,aD,aE,aF,aG,aH,aI,aJ,aK,aL,aM,aN,aO,aP,aQ,aR,aS,aT,aU,aV,aW,aX,aY,aZ,a0,a1,a2,a3,a4,a5,a6,a7,a8,a9,ba,bb,bc,bd,be,bf,bg,bh,bi,bj,bk,bm,bn,bo,bp,bq,br,bs,bt,bu,bv,bx,bz,bA,bB,bC,co,cq,cr,ct,cu,cv,cw,cx,cy,cz,cA,bD,bE,bF,bG,bH,bI,bJ,bK,bL,bM,bN,bO,bP,bQ,bR,bS,bT,bU,bW,bX,bY,bZ,b0,b1,b2,b3,b4,b5,b6,b7,b8,b9,cc,cd,ce,cf,cg,ch,ci,cj,ck,cl,cm],[]⟩ w:=by
 conv=>arg 2;whnf
 conv=>arg 4;zeta
 replace h:=zh h;have hD:Hid (Below w.heap.size w w.drew):=(zI _ w).drew;have j0:(0:Int)<=(p:Int):=by omega
 have j1:(p:Int)<(n:Int):=by omega
 replace HS:=zh HS;replace km:=zh km;refine yS ?_;refine yU (S:=fun W=>W.cell? ⟨lb,1,none⟩=some (.int .i64 (p:Int))/\W.cell? ⟨lb,2,none⟩=some (.bool g1)/\W.cell? ⟨lb,3,none⟩=some (.string n1)/\W.cell? ⟨lb,4,none⟩=some (.string d1)/\W.cell? ⟨ob,p*3,none⟩=some (.bool g2)/\W.cell? ⟨ob,p*3+1,none⟩=some (.string n2)/\W.cell? ⟨ob,p*3+2,none⟩=some (.string d2)) (by kernel_rfl) (HS.o _ hD.o) (fun ab=>?_);replace ab:=zh ab;refine tkfI (v:=?_) 0 rfl (ab.o) (Or.inl ⟨by rfl,?_⟩) ?_;rotate_left
 . (intro w a;obtain⟨q1,q2,q3,q4,q5,q6,q7⟩:=a;go_simp<;>with_reducible rfl)
 try simp only[Act.put,zA]
 refine tkfI (v:=?_) 1 rfl (ab.o) (Or.inl ⟨by rfl,?_⟩) ?_;rotate_left
 . (intro w a;obtain⟨q1,q2,q3,q4,q5,q6,q7⟩:=a;go_simp<;>with_reducible rfl)
 try simp only[Act.put]
 refine tkfI (v:=?_) 2 rfl (ab.o) (Or.inl ⟨by rfl,?_⟩) ?_;rotate_left
 . (intro w a;obtain⟨q1,q2,q3,q4,q5,q6,q7⟩:=a;go_simp<;>with_reducible rfl)
 try simp only[Act.put]
 refine tkfI (v:=?_) 3 rfl (ab.o) (Or.inl ⟨by rfl,?_⟩) ?_;rotate_left
 . (intro w a;obtain⟨q1,q2,q3,q4,q5,q6,q7⟩:=a;go_simp<;>with_reducible rfl)
 try simp only[Act.put]
 refine tkfI (v:=?_) 4 rfl (ab.o) (Or.inl ⟨by rfl,?_⟩) ?_;rotate_left
 . (intro w a;obtain⟨q1,q2,q3,q4,q5,q6,q7⟩:=a;go_simp<;>with_reducible rfl)
 try simp only[Act.put]
 refine tkfI (v:=?_) 5 rfl (ab.o) (Or.inl ⟨by rfl,?_⟩) ?_;rotate_left
 . (intro w a;obtain⟨q1,q2,q3,q4,q5,q6,q7⟩:=a;go_simp<;>with_reducible rfl)
 try simp only[Act.put]
 refine tkfI (v:=?_) 6 rfl (ab.o) (Or.inl ⟨by rfl,?_⟩) ?_;rotate_left
 . (intro w a;obtain⟨q1,q2,q3,q4,q5,q6,q7⟩:=a;go_simp<;>with_reducible rfl)
 try simp only[Act.put]
 refine zP (rs:=[7,11]) (by kernel_rfl) (by simp) ?_;refine zK (o:=_) rfl (fun K hK=>?_) ?_
 .go_simp;refine(km.o _).q fun W1 af=>?_;have s:=hD.t af;clear af;refine hK.o _ _ (HS.o _ s.o) (fun _=>?_);clear hK K
  try simp only[Act.put,zA,zG,zF]
  refine tkfI (v:=?_) 8 rfl (HS.o _ s.o) (Or.inl ⟨by rfl,?_⟩) ?_;rotate_left
  . (intro w a;obtain⟨q1,q2,q3,q4,q5,q6,q7⟩:=a;go_simp<;>with_reducible rfl)
  try simp only[Act.put,zA]
  refine tkfI (v:=?_) 9 rfl (HS.o _ s.o) (Or.inl ⟨by rfl,?_⟩) ?_;rotate_left
  . (intro w a;obtain⟨q1,q2,q3,q4,q5,q6,q7⟩:=a;go_simp<;>with_reducible rfl)
  try simp only[Act.put]
  refine tkfI (v:=?_) 10 rfl (HS.o _ s.o) (Or.inl ⟨by rfl,?_⟩) ?_;rotate_left
  . (intro w a;obtain⟨q1,q2,q3,q4,q5,q6,q7⟩:=a;go_simp<;>with_reducible rfl)
  try simp only[Act.put]
  refine zP (rs:=[11]) (by kernel_rfl) (by simp) ?_;refine zK (o:=_) rfl (fun K hK=>?_) ?_
  .go_simp;obtain⟨W2,ah⟩:∃X,X=W1.alloc (.cells #[.bool false,.string ⟨#[]⟩,.string ⟨#[]⟩] 34):=⟨_,rfl⟩;obtain⟨x2,aj⟩:∃X,X=W1.heap.size:=⟨_,rfl⟩;have ad:Hid (Below w.heap.size w W2):=by rw[ah];exact s.o.alloc s.o.size _
   have d:Hid (Bk W2 x2 34 [.bool false,.string ⟨#[]⟩,.string ⟨#[]⟩]):=by rw[ah,aj];exact Bk.new _ _ _
   have ek:Hid (w.heap.size<=x2):=by rw[aj];exact s.o.size
   rw[<-ah,<-aj];refine hK.o _ _ (HS.o _ ad.o) (fun _=>?_);clear hK K
   try simp only[Act.put,zA,zG,zF]
   replace ah:=zh ah;replace aj:=zh aj;refine zP (rs:=[12]) (by kernel_rfl) (by simp) ?_;refine zK (o:=_) rfl (fun K hK=>?_) ?_
   .have c0:=d.o.c0;have c1:=d.o.c1;have c2:=d.o.c2;have f0:=d.o.frozen 0;have f1:=d.o.frozen 1;have f2:=d.o.frozen 2;have c9:=d.o.lt;go_simp;clear c0 c1 c2 f0 f1 f2 c9;obtain⟨W3,aa⟩:∃X,X=(((W2.setCell ⟨x2,0,none⟩ (.bool g3)).setCell ⟨x2,1,none⟩ (.string n3)).setCell ⟨x2,2,none⟩ (.string d3)):=⟨_,rfl⟩;have ae:Hid (Below w.heap.size w W3):=by rw[aa];exact GN ad.o ek.o _ _ _
    have cn:Hid (Bk W3 x2 34 [.bool g3,.string n3,.string d3]):=by rw[aa];exact KB d.o _ _ _
    rw[<-aa];refine hK.o _ _ (HS.o _ ae.o) (fun _=>?_);clear hK K
    try simp only[Act.put,zA,zG,zF]
    replace aa:=zh aa;refine tkfI (v:=?_) 13 rfl (HS.o _ ae.o) (Or.inl ⟨by rfl,?_⟩) ?_;rotate_left
    . (intro w a;obtain⟨q1,q2,q3,q4,q5,q6,q7⟩:=a;go_simp<;>with_reducible rfl)
    try simp only[Act.put,zA]
    refine ym (by kernel_rfl) ?_ _;refine yF ?_;exact h.o _ _ _ _ _ _ _ _ _ _ _ _ _ cn ae ek
   exact zN
  exact zN
 refine zK (o:=_) rfl (fun K hK=>?_) ?_
 .go_simp;obtain⟨W1,ag⟩:∃X,X=(w.alloc (.cells #[.bool false,.string ⟨#[]⟩,.string ⟨#[]⟩] 34)).drew:=⟨_,rfl⟩;obtain⟨x1,ai⟩:∃X,X=w.heap.size:=⟨_,rfl⟩;have s:Hid (Below w.heap.size w W1):=by rw[ag];exact((zI _ w).alloc (zB _) _).drew
  have en:Hid (Bk W1 x1 34 [.bool false,.string ⟨#[]⟩,.string ⟨#[]⟩]):=by rw[ag,ai];have h:=Bk.new w 34 [.bool false,.string ⟨#[]⟩,.string ⟨#[]⟩];exact h
  have ej:Hid (w.heap.size<=x1):=by rw[ai];exact hD.o.size
  rw[<-ag,<-ai];refine hK.o _ _ (HS.o _ s.o) (fun _=>?_);clear hK K
  try simp only[Act.put,zA,zG,zF]
  replace ag:=zh ag;replace ai:=zh ai;refine zP (rs:=[7]) (by kernel_rfl) (by simp) ?_;refine zK (o:=_) rfl (fun K hK=>?_) ?_
  .go_simp;refine(km.o _).q fun W2 af=>?_;have ad:=s.t af;have d:=zh (en.o.below af);clear af;refine hK.o _ _ (HS.o _ ad.o) (fun _=>?_);clear hK K
   try simp only[Act.put,zA,zG,zF]
   refine tkfI (v:=?_) 8 rfl (HS.o _ ad.o) (Or.inl ⟨by rfl,?_⟩) ?_;rotate_left
   . (intro w a;obtain⟨q1,q2,q3,q4,q5,q6,q7⟩:=a;go_simp<;>with_reducible rfl)
   try simp only[Act.put,zA]
   refine tkfI (v:=?_) 9 rfl (HS.o _ ad.o) (Or.inl ⟨by rfl,?_⟩) ?_;rotate_left
   . (intro w a;obtain⟨q1,q2,q3,q4,q5,q6,q7⟩:=a;go_simp<;>with_reducible rfl)
   try simp only[Act.put]
   refine tkfI (v:=?_) 10 rfl (HS.o _ ad.o) (Or.inl ⟨by rfl,?_⟩) ?_;rotate_left
   . (intro w a;obtain⟨q1,q2,q3,q4,q5,q6,q7⟩:=a;go_simp<;>with_reducible rfl)
   try simp only[Act.put]
   refine zP (rs:=[12]) (by kernel_rfl) (by simp) ?_;refine zK (o:=_) rfl (fun K hK=>?_) ?_
   .have c0:=d.o.c0;have c1:=d.o.c1;have c2:=d.o.c2;have f0:=d.o.frozen 0;have f1:=d.o.frozen 1;have f2:=d.o.frozen 2;have c9:=d.o.lt;go_simp;clear c0 c1 c2 f0 f1 f2 c9;obtain⟨W3,aa⟩:∃X,X=(((W2.setCell ⟨x1,0,none⟩ (.bool g3)).setCell ⟨x1,1,none⟩ (.string n3)).setCell ⟨x1,2,none⟩ (.string d3)):=⟨_,rfl⟩;have ae:Hid (Below w.heap.size w W3):=by rw[aa];exact GN ad.o ej.o _ _ _
    have cn:Hid (Bk W3 x1 34 [.bool g3,.string n3,.string d3]):=by rw[aa];exact KB d.o _ _ _
    rw[<-aa];refine hK.o _ _ (HS.o _ ae.o) (fun _=>?_);clear hK K
    try simp only[Act.put,zA,zG,zF]
    replace aa:=zh aa;refine tkfI (v:=?_) 13 rfl (HS.o _ ae.o) (Or.inl ⟨by rfl,?_⟩) ?_;rotate_left
    . (intro w a;obtain⟨q1,q2,q3,q4,q5,q6,q7⟩:=a;go_simp<;>with_reducible rfl)
    try simp only[Act.put,zA]
    refine ym (by kernel_rfl) ?_ _;refine yF ?_;exact h.o _ _ _ _ _ _ _ _ _ _ _ _ _ cn ae ej
   exact zN
  exact zN
 exact zN
theorem Xc{c0 c1 c2 c3 c4 c5 c6 c7 c8 c9 cw cx cy cz cA cB cC cD cE cF cG cH cI cJ cK cL cM cN cP cR cS cT cU cV cW cX cY cZ da db dc dd de df dg dh di dj dk dl dq dr ds dt du dw dx dy dz dA dB dC dD dE dF dG dH dI dJ dK dL dM dN dO dP dQ dR dS dT dU dV dW dX dY dZ d0 d1 d2 d3 d4 d5 d6 d7 d8 d9 ea eb af ag ah ai aj ak al am an ao aq ar au av aw ax ay az aA aB aC aD aE aF aG aH aI aJ aK aL aM aN aO aP aQ aR aS aT aU aV aW aX aY aZ a0 a1 a2 a3 a4 a5 a6 a7 a8 a9 ba bb bc bd be bf bg bh bi bj bk bm bn bo bp bq br bs bt bu bv bx bz bA bB bC bD bE bF bG bH bI bJ bK bL bM bN bO bP bQ bR bS bT bU bW bX bY bZ b0 b1 b2 b3 b4 b5 b6 b7 b8 b9 cc cd ce cf ch ci cj ck cl cm cn co cq cr ct cu cv:Value}{Q:Exit->Act->World->Prop}(rb lb m k:Nat)(r:Nat->Raw)(q Ah:Rat)(c0v c1v:Value)(w:World)(hk:k<m)(_hm:m<=1000)(hr:RowB w rb m r)(ee:r k=rq q)(hl:Bk w lb 55 [c0v,c1v,.bool (rq Ah).1,.string (rq Ah).2.1,.string (rq Ah).2.2])(n2:rb≠lb)(h1:ShortQ q)(h2:ShortQ Ah)
 (h:∀(u162 u163 u164 u165 u166 u167 u168 u169 u170 u171 u172 u173 u174:Value)(W:World)(_:Hid (RowB W rb m fun j=>if j=k then rq (q-Ah) else r j))(_:Hid (Kp [rb] w W)),Q .normal ⟨#[c0,c1,c2,c3,c4,c5,c6,c7,c8,c9,cw,cx,cy,cz,cA,cB,cC,cD,cE,cF,.slice (some ⟨rb,0,none⟩) m m,cG,cH,cI,.pointer (some ⟨lb,0,none⟩),.int .i64 (k:Int),cJ,cK,cL,cM,cN,cP,cR,cS,cT,cU,cV,cW,cX,cY,cZ,da,db,dc,dd,de,df,dg,dh,di,dj,dk,dl,dq,dr,ds,dt,du,dw,dx,dy,dz,dA,dB,dC,dD,dE,dF,dG,dH,dI,dJ,dK,dL,dM,dN,dO,dP,dQ,dR,dS,dT,dU,dV,dW,dX,dY,dZ,d0,d1,d2,d3,d4,d5,d6,d7,d8,d9,ea,eb,af,ag,ah,ai,aj,ak,al,am,an,ao,aq,ar,au,av,aw,ax,ay,az,aA,aB,aC,aD,aE,aF,aG,aH,aI,aJ,aK,aL,aM,aN,aO,aP,aQ,aR,aS,aT,aU,aV,aW,aX,aY,aZ,a0,a1,a2,a3,a4,a5,a6,a7,a8,a9,ba,bb,bc,bd,be,bf,bg,bh,u162,u163,u164,u165,u166,u167,u168,u169,u170,u171,u172,u173,u174,bi,bj,bk,bm,bn,bo,bp,bq,br,bs,bt,bu,bv,bx,bz,bA,bB,bC,bD,bE,bF,bG,bH,bI,bJ,bK,bL,bM,bN,bO,bP,bQ,bR,bS,bT,bU,bW,bX,bY,bZ,b0,b1,b2,b3,b4,b5,b6,b7,b8,b9,cc,cd,ce,cf],[]⟩ W):
 Code.wp prog (reR 47) Q ⟨#[c0,c1,c2,c3,c4,c5,c6,c7,c8,c9,cw,cx,cy,cz,cA,cB,cC,cD,cE,cF,.slice (some ⟨rb,0,none⟩) m m,cG,cH,cI,.pointer (some ⟨lb,0,none⟩),.int .i64 (k:Int),cJ,cK,cL,cM,cN,cP,cR,cS,cT,cU,cV,cW,cX,cY,cZ,da,db,dc,dd,de,df,dg,dh,di,dj,dk,dl,dq,dr,ds,dt,du,dw,dx,dy,dz,dA,dB,dC,dD,dE,dF,dG,dH,dI,dJ,dK,dL,dM,dN,dO,dP,dQ,dR,dS,dT,dU,dV,dW,dX,dY,dZ,d0,d1,d2,d3,d4,d5,d6,d7,d8,d9,ea,eb,af,ag,ah,ai,aj,ak,al,am,an,ao,aq,ar,au,av,aw,ax,ay,az,aA,aB,aC,aD,aE,aF,aG,aH,aI,aJ,aK,aL,aM,aN,aO,aP,aQ,aR,aS,aT,aU,aV,aW,aX,aY,aZ,a0,a1,a2,a3,a4,a5,a6,a7,a8,a9,ba,bb,bc,bd,be,bf,bg,bh,ch,ci,cj,ck,cl,cm,cn,co,cq,cr,ct,cu,cv,bi,bj,bk,bm,bn,bo,bp,bq,br,bs,bt,bu,bv,bx,bz,bA,bB,bC,bD,bE,bF,bG,bH,bI,bJ,bK,bL,bM,bN,bO,bP,bQ,bR,bS,bT,bU,bW,bX,bY,bZ,b0,b1,b2,b3,b4,b5,b6,b7,b8,b9,cc,cd,ce,cf],[]⟩ w:=by
 conv=>arg 2;whnf
 conv=>arg 4;zeta
 replace h:=zh h;have ae:Hid (Below w.heap.size w w.drew):=(zI _ w).drew;have kp:Hid (∀W,Calls prog 54 #[.agg #[.bool (rq q).1,.string (rq q).2.1,.string (rq q).2.2],.agg #[.bool (rq Ah).1,.string (rq Ah).2.1,.string (rq Ah).2.2]] W fun e w'=>e=.returned (.tuple #[.agg #[.bool (rq (q-Ah)).1,.string (rq (q-Ah)).2.1,.string (rq (q-Ah)).2.2],.int .i64 0])/\Below W.heap.size W w'):=fun W=>Hm q Ah h1 h2 W;have cg:Hid (RowB w.drew rb m r):=hr;have rl:=hr.lt;have ab:Hid (∀W,Below w.heap.size w W->W.cell? ⟨lb,2,none⟩=some (.bool (rq Ah).1)/\W.cell? ⟨lb,3,none⟩=some (.string (rq Ah).2.1)/\W.cell? ⟨lb,4,none⟩=some (.string (rq Ah).2.2)):=fun W h=>⟨(hl.below h).c2,(hl.below h).c3,(hl.below h).c4⟩;have j0:(0:Int)<=(k:Int):=by omega
 have j1:(k:Int)<(m:Int):=by omega
 replace hr:=zh hr;replace hl:=zh hl;clear h1 h2;refine yS ?_;refine yU (S:=fun W=>W.cell? ⟨lb,2,none⟩=some (.bool (rq Ah).1)/\W.cell? ⟨lb,3,none⟩=some (.string (rq Ah).2.1)/\W.cell? ⟨lb,4,none⟩=some (.string (rq Ah).2.2)) (by kernel_rfl) (ab.o _ ae.o) (fun aa=>?_);replace aa:=zh aa;refine tkfI (v:=?_) 0 rfl (aa.o) (Or.inl ⟨by rfl,?_⟩) ?_;rotate_left
 . (intro w d;obtain⟨q1,q2,q3⟩:=d;go_simp<;>with_reducible rfl)
 try simp only[Act.put,zA]
 refine tkfI (v:=?_) 1 rfl (aa.o) (Or.inl ⟨by rfl,?_⟩) ?_;rotate_left
 . (intro w d;obtain⟨q1,q2,q3⟩:=d;go_simp<;>with_reducible rfl)
 try simp only[Act.put]
 refine tkfI (v:=?_) 2 rfl (aa.o) (Or.inl ⟨by rfl,?_⟩) ?_;rotate_left
 . (intro w d;obtain⟨q1,q2,q3⟩:=d;go_simp<;>with_reducible rfl)
 try simp only[Act.put]
 refine tkfI (v:=?_) 3 rfl (aa.o) (Or.inl ⟨by rfl,?_⟩) ?_;rotate_left
 . (intro w d;obtain⟨q1,q2,q3⟩:=d;go_simp<;>with_reducible rfl)
 try simp only[Act.put]
 refine tkfI (v:=?_) 4 rfl (aa.o) (Or.inl ⟨by rfl,?_⟩) ?_;rotate_left
 . (intro w d;obtain⟨q1,q2,q3⟩:=d;go_simp<;>with_reducible rfl)
 try simp only[Act.put]
 refine tkfI (v:=?_) 6 rfl (aa.o) (Or.inl ⟨by rfl,?_⟩) ?_;rotate_left
 . (intro w d;obtain⟨q1,q2,q3⟩:=d;go_simp<;>with_reducible rfl)
 try simp only[Act.put]
 refine tkfI (v:=?_) 7 rfl (aa.o) (Or.inl ⟨by rfl,?_⟩) ?_;rotate_left
 . (intro w d;obtain⟨q1,q2,q3⟩:=d;go_simp<;>with_reducible rfl)
 try simp only[Act.put]
 obtain⟨r1,r2,r3⟩:=cg.o.cell hk;rw[ee]at r1 r2 r3;have ef:=cg.o.lt;refine zP (rs:=[5]) (by kernel_rfl) (by simp) ?_;refine zK (o:=_) rfl (fun K hK=>?_) ?_
 .go_simp;clear r1 r2 r3;refine hK.o _ _ (ab.o _ ae.o) (fun _=>?_);clear hK K
  try simp only[Act.put,zA,zG,zF]
  refine zP (rs:=[8]) (by kernel_rfl) (by simp) ?_;refine zK (o:=_) rfl (fun K hK=>?_) ?_
  .go_simp;refine(kp.o _).q fun W2 hb=>?_;have s:Hid (Below w.heap.size w W2):=ae.o.trans (hb.mono ae.o.size);have ad:Hid (RowB W2 rb m r):=cg.o.below hb ef;clear hb;refine hK.o _ _ (ab.o _ s.o) (fun _=>?_);clear hK K
   try simp only[Act.put,zA,zG,zF]
   refine tkfI (v:=?_) 9 rfl (ab.o _ s.o) (Or.inl ⟨by rfl,?_⟩) ?_;rotate_left
   . (intro w d;obtain⟨q1,q2,q3⟩:=d;go_simp<;>with_reducible rfl)
   try simp only[Act.put,zA]
   refine tkfI (v:=?_) 10 rfl (ab.o _ s.o) (Or.inl ⟨by rfl,?_⟩) ?_;rotate_left
   . (intro w d;obtain⟨q1,q2,q3⟩:=d;go_simp<;>with_reducible rfl)
   try simp only[Act.put]
   refine tkfI (v:=?_) 11 rfl (ab.o _ s.o) (Or.inl ⟨by rfl,?_⟩) ?_;rotate_left
   . (intro w d;obtain⟨q1,q2,q3⟩:=d;go_simp<;>with_reducible rfl)
   try simp only[Act.put]
   refine tkfI (v:=?_) 12 rfl (ab.o _ s.o) (Or.inl ⟨by rfl,?_⟩) ?_;rotate_left
   . (intro w d;obtain⟨q1,q2,q3⟩:=d;go_simp<;>with_reducible rfl)
   try simp only[Act.put]
   obtain⟨r1,r2,r3⟩:=ad.o.cell hk;have f1:=ad.o.frozen (k*3);have f2:=ad.o.frozen (k*3+1);have f3:=ad.o.frozen (k*3+2);have eg:=ad.o.lt;have ed:Hid (RowB (((W2.setCell ⟨rb,k*3,none⟩ (.bool (rq (q-Ah)).1)).setCell ⟨rb,k*3+1,none⟩ (.string (rq (q-Ah)).2.1)).setCell ⟨rb,k*3+2,none⟩ (.string (rq (q-Ah)).2.2)) rb m fun j=>if j=k then rq (q-Ah) else r j):=ad.o.set hk _;have ec:Hid (Kp [rb] w (((W2.setCell ⟨rb,k*3,none⟩ (.bool (rq (q-Ah)).1)).setCell ⟨rb,k*3+1,none⟩ (.string (rq (q-Ah)).2.1)).setCell ⟨rb,k*3+2,none⟩ (.string (rq (q-Ah)).2.2))):=((((Kp.refl [rb] w).below s.o).set (a:=⟨rb,k*3,none⟩) _ (.inl (by simp))).set (a:=⟨rb,k*3+1,none⟩) _ (.inl (by simp))).set (a:=⟨rb,k*3+2,none⟩) _ (.inl (by simp));refine zP (rs:=[13]) (by kernel_rfl) (by simp) ?_;refine zK (o:=_) rfl (fun K hK=>?_) ?_
   .go_simp;refine hK.o _ _ (⟨((((hl.o.below s.o).far (p:=⟨rb,k*3,none⟩) n2.symm _).far (p:=⟨rb,k*3+1,none⟩) n2.symm _).far (p:=⟨rb,k*3+2,none⟩) n2.symm _).c2,((((hl.o.below s.o).far (p:=⟨rb,k*3,none⟩) n2.symm _).far (p:=⟨rb,k*3+1,none⟩) n2.symm _).far (p:=⟨rb,k*3+2,none⟩) n2.symm _).c3,((((hl.o.below s.o).far (p:=⟨rb,k*3,none⟩) n2.symm _).far (p:=⟨rb,k*3+1,none⟩) n2.symm _).far (p:=⟨rb,k*3+2,none⟩) n2.symm _).c4⟩) (fun _=>?_);clear hK K
    try simp only[Act.put,zA,zG,zF]
    refine ym (by kernel_rfl) ?_ _;refine yF ?_;exact h.o _ _ _ _ _ _ _ _ _ _ _ _ _ _ ed ec
   exact zN
  exact zN
 exact zN
theorem Gz{W:World}{b x o k:Nat}(h:b≠x)(v0 v1 v2:Value):(((W.setCell ⟨x,k*3,none⟩ v0).setCell ⟨x,k*3+1,none⟩ v1).setCell ⟨x,k*3+2,none⟩ v2).cell? ⟨b,o,none⟩=W.cell? ⟨b,o,none⟩ :=
 zR (a:=⟨b,o,none⟩) (((zg _ _ _ _ h).trans (zg _ _ _ _ h)).trans (zg _ _ _ _ h))
theorem Xd{c0 c1 c2 c3 c4 c5 c6 c7 c8 c9 ct cv cw cy cz cA cB cC cD cE cF cG cH cI cJ cK cL cM cN cP cR cS cT cU cV cW cX cY cZ da db dc dd de df dg dh di dj dk dl dq dr ds dt du dw dx dy dz dA dB dC dD dE dF dG dH dI dJ dK dL dM dN dO dP dQ dR dS dT dU dV dW dX dY dZ d0 d1 d2 d3 d4 d5 d6 d7 d8 d9 ab ad ae af ag ah ai aj ak al am an ao aq ar au av aw ax ay az aA aB aC aD aE aF aG aH aI aJ aK aL aM aN aO aP aQ aR aS aT aU aV aW aX aY aZ a0 a1 a2 a3 a4 a5 a6 a7 a8 a9 ba bb bc bd be bf bg bh bi bj bk bm bn bo bp bq br bs bt bu bv bx bz bA bB bC bD bE bF bG bH bI bJ bK bL bM bN bO bP bQ bR bS bT bU bW bX bY bZ b0 b1 b2 b3 b4 b5 b6 b7 b8 b9 cc cd ce cf ch ci cj ck cl cm cn co cq cr:Value}{Q:Exit->Act->World->Prop}(ub uo xb xo ob n m k p cu cx:Nat)(y:Raw)(r:Nat->Raw)(w:World)(HS:∀W,Below w.heap.size w W->(fun W=>W.cell? ⟨ub,uo+k,none⟩=some (.int .i64 (p:Int))/\W.cell? ⟨xb,xo+k*3,none⟩=some (.bool y.1)/\W.cell? ⟨xb,xo+k*3+1,none⟩=some (.string y.2.1)/\W.cell? ⟨xb,xo+k*3+2,none⟩=some (.string y.2.2)) W)(hk:k<m)(hp:p<n)(hr:RowB w ob n r)(n1:ub≠ob)(n2:xb≠ob)
 (h:∀(u218 u219 u220 u221 u222 u223 u224 u225 u226 u227:Value)(W:World)(_:Hid (RowB W ob n fun j=>if j=p then y else r j))(_:Hid (Kp [ob] w W)),Q .normal ⟨#[c0,c1,c2,c3,c4,c5,c6,c7,c8,c9,ct,.slice (some ⟨ob,0,none⟩) n n,cv,cw,cy,cz,.slice (some ⟨ub,uo,none⟩) m cu,cA,cB,cC,cD,cE,cF,cG,cH,cI,cJ,cK,.slice (some ⟨xb,xo,none⟩) m cx,cL,.int .i64 (k:Int),cM,cN,cP,cR,cS,cT,cU,cV,cW,cX,cY,cZ,da,db,dc,dd,de,df,dg,dh,di,dj,dk,dl,dq,dr,ds,dt,du,dw,dx,dy,dz,dA,dB,dC,dD,dE,dF,dG,dH,dI,dJ,dK,dL,dM,dN,dO,dP,dQ,dR,dS,dT,dU,dV,dW,dX,dY,dZ,d0,d1,d2,d3,d4,d5,d6,d7,d8,d9,ab,ad,ae,af,ag,ah,ai,aj,ak,al,am,an,ao,aq,ar,au,av,aw,ax,ay,az,aA,aB,aC,aD,aE,aF,aG,aH,aI,aJ,aK,aL,aM,aN,aO,aP,aQ,aR,aS,aT,aU,aV,aW,aX,aY,aZ,a0,a1,a2,a3,a4,a5,a6,a7,a8,a9,ba,bb,bc,bd,be,bf,bg,bh,bi,bj,bk,bm,bn,bo,bp,bq,br,bs,bt,bu,bv,bx,bz,bA,bB,bC,bD,bE,bF,bG,bH,bI,bJ,bK,bL,bM,bN,bO,bP,bQ,bR,bS,bT,bU,bW,bX,bY,bZ,b0,b1,b2,b3,b4,b5,b6,b7,b8,b9,cc,cd,ce,u218,u219,u220,u221,u222,u223,u224,u225,u226,u227,cf],[]⟩ W):
 Code.wp prog (reR 56) Q ⟨#[c0,c1,c2,c3,c4,c5,c6,c7,c8,c9,ct,.slice (some ⟨ob,0,none⟩) n n,cv,cw,cy,cz,.slice (some ⟨ub,uo,none⟩) m cu,cA,cB,cC,cD,cE,cF,cG,cH,cI,cJ,cK,.slice (some ⟨xb,xo,none⟩) m cx,cL,.int .i64 (k:Int),cM,cN,cP,cR,cS,cT,cU,cV,cW,cX,cY,cZ,da,db,dc,dd,de,df,dg,dh,di,dj,dk,dl,dq,dr,ds,dt,du,dw,dx,dy,dz,dA,dB,dC,dD,dE,dF,dG,dH,dI,dJ,dK,dL,dM,dN,dO,dP,dQ,dR,dS,dT,dU,dV,dW,dX,dY,dZ,d0,d1,d2,d3,d4,d5,d6,d7,d8,d9,ab,ad,ae,af,ag,ah,ai,aj,ak,al,am,an,ao,aq,ar,au,av,aw,ax,ay,az,aA,aB,aC,aD,aE,aF,aG,aH,aI,aJ,aK,aL,aM,aN,aO,aP,aQ,aR,aS,aT,aU,aV,aW,aX,aY,aZ,a0,a1,a2,a3,a4,a5,a6,a7,a8,a9,ba,bb,bc,bd,be,bf,bg,bh,bi,bj,bk,bm,bn,bo,bp,bq,br,bs,bt,bu,bv,bx,bz,bA,bB,bC,bD,bE,bF,bG,bH,bI,bJ,bK,bL,bM,bN,bO,bP,bQ,bR,bS,bT,bU,bW,bX,bY,bZ,b0,b1,b2,b3,b4,b5,b6,b7,b8,b9,cc,cd,ce,ch,ci,cj,ck,cl,cm,cn,co,cq,cr,cf],[]⟩ w:=by
 conv=>arg 2;whnf
 conv=>arg 4;zeta
 replace h:=zh h;have cg:Hid (Below w.heap.size w w.drew):=(zI _ w).drew;have aa:Hid (RowB w.drew ob n r):=hr;have j0:(0:Int)<=(k:Int):=by omega
 have j1:(k:Int)<(m:Int):=by omega
 have j2:(0:Int)<=(p:Int):=by omega
 have j3:(p:Int)<(n:Int):=by omega
 replace HS:=zh HS;replace hr:=zh hr;refine yS ?_;refine yU (S:=fun W=>W.cell? ⟨ub,uo+k,none⟩=some (.int .i64 (p:Int))/\W.cell? ⟨xb,xo+k*3,none⟩=some (.bool y.1)/\W.cell? ⟨xb,xo+k*3+1,none⟩=some (.string y.2.1)/\W.cell? ⟨xb,xo+k*3+2,none⟩=some (.string y.2.2)) (by kernel_rfl) (HS.o _ cg.o) (fun s=>?_);replace s:=zh s;refine tkfI (v:=?_) 0 rfl (s.o) (Or.inl ⟨by rfl,?_⟩) ?_;rotate_left
 . (intro w d;obtain⟨q1,q2,q3,q4⟩:=d;go_simp<;>with_reducible rfl)
 try simp only[Act.put,zA]
 refine tkfI (v:=?_) 1 rfl (s.o) (Or.inl ⟨by rfl,?_⟩) ?_;rotate_left
 . (intro w d;obtain⟨q1,q2,q3,q4⟩:=d;go_simp<;>with_reducible rfl)
 try simp only[Act.put]
 refine tkfI (v:=?_) 2 rfl (s.o) (Or.inl ⟨by rfl,?_⟩) ?_;rotate_left
 . (intro w d;obtain⟨q1,q2,q3,q4⟩:=d;go_simp<;>with_reducible rfl)
 try simp only[Act.put]
 refine tkfI (v:=?_) 3 rfl (s.o) (Or.inl ⟨by rfl,?_⟩) ?_;rotate_left
 . (intro w d;obtain⟨q1,q2,q3,q4⟩:=d;go_simp<;>with_reducible rfl)
 try simp only[Act.put]
 refine tkfI (v:=?_) 4 rfl (s.o) (Or.inl ⟨by rfl,?_⟩) ?_;rotate_left
 . (intro w d;obtain⟨q1,q2,q3,q4⟩:=d;go_simp<;>with_reducible rfl)
 try simp only[Act.put]
 refine tkfI (v:=?_) 5 rfl (s.o) (Or.inl ⟨by rfl,?_⟩) ?_;rotate_left
 . (intro w d;obtain⟨q1,q2,q3,q4⟩:=d;go_simp<;>with_reducible rfl)
 try simp only[Act.put]
 refine tkfI (v:=?_) 6 rfl (s.o) (Or.inl ⟨by rfl,?_⟩) ?_;rotate_left
 . (intro w d;obtain⟨q1,q2,q3,q4⟩:=d;go_simp<;>with_reducible rfl)
 try simp only[Act.put]
 refine tkfI (v:=?_) 7 rfl (s.o) (Or.inl ⟨by rfl,?_⟩) ?_;rotate_left
 . (intro w d;obtain⟨q1,q2,q3,q4⟩:=d;go_simp<;>with_reducible rfl)
 try simp only[Act.put]
 refine tkfI (v:=?_) 8 rfl (s.o) (Or.inl ⟨by rfl,?_⟩) ?_;rotate_left
 . (intro w d;obtain⟨q1,q2,q3,q4⟩:=d;go_simp<;>with_reducible rfl)
 try simp only[Act.put]
 refine tkfI (v:=?_) 9 rfl (s.o) (Or.inl ⟨by rfl,?_⟩) ?_;rotate_left
 . (intro w d;obtain⟨q1,q2,q3,q4⟩:=d;go_simp<;>with_reducible rfl)
 try simp only[Act.put]
 generalize ea:w.drew=wd at *;replace ea:=zh ea;obtain⟨r1,r2,r3⟩:=aa.o.cell hp;have f1:=aa.o.frozen (p*3);have f2:=aa.o.frozen (p*3+1);have f3:=aa.o.frozen (p*3+2);have ee:=aa.o.lt;have ed:Hid (RowB (((wd.setCell ⟨ob,p*3,none⟩ (.bool y.1)).setCell ⟨ob,p*3+1,none⟩ (.string y.2.1)).setCell ⟨ob,p*3+2,none⟩ (.string y.2.2)) ob n fun j=>if j=p then y else r j):=aa.o.set hp _;have eb:Hid (Kp [ob] w (((wd.setCell ⟨ob,p*3,none⟩ (.bool y.1)).setCell ⟨ob,p*3+1,none⟩ (.string y.2.1)).setCell ⟨ob,p*3+2,none⟩ (.string y.2.2))):=((((Kp.refl [ob] w).below cg.o).set (a:=⟨ob,p*3,none⟩) _ (.inl (by simp))).set (a:=⟨ob,p*3+1,none⟩) _ (.inl (by simp))).set (a:=⟨ob,p*3+2,none⟩) _ (.inl (by simp));have ec:Hid ((fun W=>W.cell? ⟨ub,uo+k,none⟩=some (.int .i64 (p:Int))/\W.cell? ⟨xb,xo+k*3,none⟩=some (.bool y.1)/\W.cell? ⟨xb,xo+k*3+1,none⟩=some (.string y.2.1)/\W.cell? ⟨xb,xo+k*3+2,none⟩=some (.string y.2.2)) (((wd.setCell ⟨ob,p*3,none⟩ (.bool y.1)).setCell ⟨ob,p*3+1,none⟩ (.string y.2.1)).setCell ⟨ob,p*3+2,none⟩ (.string y.2.2))):=by have h:=HS.o _ cg.o;exact⟨(Gz n1 _ _ _).trans h.1,(Gz n2 _ _ _).trans h.2.1,(Gz n2 _ _ _).trans h.2.2.1,(Gz n2 _ _ _).trans h.2.2.2⟩
 refine zP (rs:=[10]) (by kernel_rfl) (by simp) ?_;refine zK (o:=_) rfl (fun K hK=>?_) ?_
 .go_simp;refine hK.o _ _ (ec.o) (fun _=>?_);clear hK K
  try simp only[Act.put,zA,zG,zF]
  refine ym (by kernel_rfl) ?_ _;refine yF ?_;exact h.o _ _ _ _ _ _ _ _ _ _ _ ed eb
 exact zN
end Sh
end
section
open Go.RowKit
namespace Bd
variable {P:Program} {ops:Array Oper} {Q:Exit->Act->World->Prop} {md:Region.Mode} {S:World->Prop} {l n:Nat}
structure Mk(B:Nat)(Ds:List Nat)(W:World):Prop where
 nodup:Ds.Nodup
 at_:∀D,D∈Ds->B<=D/\W.heap[D]? = some (.deferred (some []))
theorem Mk.nil{B:Nat}{W:World}:Mk B [] W:=⟨vY,fun _ h=>by cases h⟩
theorem Mk.lt{B:Nat}{Ds:List Nat}{W:World}(h:Mk B Ds W){D:Nat}(hD:D∈Ds):D<W.heap.size:=(Array.getElem?_eq_some_iff.1 (h.at_ D hD).2).1
theorem Mk.below{B:Nat}{Ds:List Nat}{W W':World}(h:Mk B Ds W)(hb:Below W.heap.size W W'):Mk B Ds W' :=
 ⟨h.nodup,fun D hD=>⟨(h.at_ D hD).1,(hb.block D (h.lt hD)).trans (h.at_ D hD).2⟩⟩
theorem Mk.cons{B D:Nat}{Ds:List Nat}{W:World}(h:Mk B Ds W)(hB:B<=D)(hD:W.heap[D]? = some (.deferred (some [])))(hn:D∉Ds):Mk B (D::Ds) W :=
 ⟨List.nodup_cons.2 ⟨hn,h.nodup⟩,fun E hE=>by rcases List.mem_cons.1 hE with rfl|hE;(· exact⟨hB,hD⟩);(· exact h.at_ E hE)⟩
end Bd
end
section
open Go.RowKit Go.Shelf
attribute [local go_sem] wU
namespace Bd
open Nt Ci
abbrev Xe(n:Nat):={ i:Nat // i<n }
def IW(p:Int)(l:List Lk)(k:Nat):List (Xe l.length):=(List.range k).filterMap fun j=>if h:j<l.length then (if l[j].1=p then some ⟨j,h⟩ else none) else none
def Kq(n₀ pb:Nat)(W W':World):Prop:=Below n₀ W W'/\W'.heap[pb]? = W.heap[pb]?
theorem Kq.refl{n₀ pb:Nat}(W:World):Kq n₀ pb W W:=⟨zI _ _,rfl⟩
theorem Kq.trans{n₀ pb:Nat}{A B C:World}(h:Kq n₀ pb A B)(k:Kq n₀ pb B C):Kq n₀ pb A C:=⟨h.1.trans k.1,k.2.trans h.2⟩
theorem Kq.alloc{n₀ pb:Nat}{A B:World}(h:Kq n₀ pb A B)(hn:n₀<=B.heap.size)(hp:pb<B.heap.size)(o:Obj):Kq n₀ pb A (B.alloc o):=⟨h.1.alloc hn _,(yZ B o pb hp).trans h.2⟩
theorem Kq.set{n₀ pb:Nat}{A B:World}(h:Kq n₀ pb A B){a:Addr}(hn:n₀<=a.block)(hp:pb≠a.block)(v:Value):Kq n₀ pb A (B.setCell a v):=⟨h.1.setCell hn v,(zg B a v pb hp).trans h.2⟩
theorem Kq.below{n₀ pb:Nat}{A B C:World}(h:Kq n₀ pb A B)(hb:Below B.heap.size B C)(hn:n₀<=B.heap.size)(hp:pb<B.heap.size):Kq n₀ pb A C:=⟨h.1.trans (hb.mono hn),(hb.block pb hp).trans h.2⟩
end Bd
end
section
namespace Bd
open Nt Ci Sh
section
variable {n:Nat} {L:List Lp} {F:List Nat}
def WM(L:List Lp)(F:List Nat)(v:Nat->Rat)(r:Nat->Int)(p:Nat):Prop :=
 (v p=0->r p=-1)/\(v p≠0->p∈F->r p=0/\v p<=1)/\(v p≠0->p∉F->1<=r p/\v p<=A6 p v L/\∃x,x∈L/\x.1=p/\0<=r x.2.1/\r x.2.1<r p/\v x.2.1≠0)
def Blw(n:Nat)(L:List Lp)(F:List Nat)(v:Nat->Rat)(r:Nat->Int):Prop:=∀p,p<n->0<=v p/\WM L F v r p
theorem Blw.le1{v:Nat->Rat}{r:Nat->Int}(h:Blw n L F v r):∀p,p<n->p∈F->v p<=1:=fun p hp hF=>by
 by_cases c:v p=0
 .rw[c];decide
 exact((h p hp).2.2.1 c hF).2
end
theorem isI_dvd{x:Rat}{D:Nat}(h:x.den∣D):IsI ((D:Rat)*x):=by
 obtain⟨k,rfl⟩:=h;have hq:=Rat.mkRat_self x;rw[vf]at hq
 have hd:(x.den:Rat)≠0:=by
  have:(0:Rat)<(x.den:Rat):=Rat.natCast_pos.2 x.den_pos;grind
 refine⟨k*x.num,?_⟩;rw[xI,Rat.intCast_mul,wN];rw[xu]at hq;have hi:=yy _ hd;generalize (x.den:Rat)=D at *;generalize (x.num:Rat)=N at *;rw[<-hq];have e:D*(k:Rat)*(N*D⁻¹)=(k:Rat)*N*(D*D⁻¹):=by grind
 rw[e,hi];grind
structure Fits(M n:Nat)(v:Nat->Rat)(D:Nat):Prop where
 dp:0<D
 dm:D<M
 nn:∀p,p<n->0<=v p
 num:∀p,p<n->(v p).num.natAbs<M
 dvd:∀p,p<n->(v p).den∣D
theorem QO{x:Rat}{M:Nat}(_:0<=x)(h:x.num.natAbs<M):x<=(M:Rat):=by
 rw[Rat.le_iff];have e1:((M:Nat):Rat).num=M:=Rat.num_natCast M;have e2:((M:Nat):Rat).den=1:=Rat.den_natCast M;rw[e1,e2];have hd:=x.den_pos;have:(M:Int)*1<=(M:Int)*(x.den:Int):=Int.mul_le_mul_of_nonneg_left (by omega) (by omega);omega
theorem VY{x:Rat}{c d:Nat}(hd:0<d)(h0:0<=x)(h1:x<=(c:Rat))(hi:IsI ((d:Rat)*x)):x.num.natAbs<=c*d/\x.den<=d:=by
 obtain⟨z,hz⟩:=hi
 have hdr:(d:Rat)≠0:=by
  have:(0:Rat)<(d:Rat):=Rat.natCast_pos.2 hd;grind
 have e:x=mkRat z d:=by
  rw[vf,<-hz,xu];have:=yy _ hdr;grind
 have a:x.den∣d:=by
  rw[e,Rat.den_mkRat,zC (by omega)];exact Nat.div_dvd_of_dvd (Nat.gcd_dvd_left _ _)
 have h:=Nat.le_of_dvd hd a;refine⟨?_,h⟩;have h2:=(Rat.le_iff _ _).1 h1;have e1:((c:Nat):Rat).num=c:=Rat.num_natCast c;have e2:((c:Nat):Rat).den=1:=Rat.den_natCast c;rw[e1,e2]at h2;have h3:=Rat.num_nonneg.2 h0
 have h4:x.num.natAbs<=c*x.den:=by
  have:((c*x.den:Nat):Int)=(c:Int)*(x.den:Int):=ya ..;omega
 exact zV h4 (yT _ h)
theorem Fits.sum{M n D:Nat}{L:List Lp}{v:Nat->Rat}(h:Fits M n v D)(hL:Caps n L)(p k:Nat):(A6 p v (L.take k)).num.natAbs<=M*(6000*M)/\(A6 p v (L.take k)).den<=6000*M:=by
 have hT:=hL.take k;have h0:=Cj (p:=p) (f:=v) hT.pos fun x hx _=>h.nn _ (hT.lt x hx).2;have h1:A6 p v (L.take k)<=(M:Rat):=hT.le_of (Rat.natCast_nonneg) fun x hx _=>QO (h.nn _ (hT.lt x hx).2) (h.num _ (hT.lt x hx).2);have h2:=hT.int_sum (p:=p) (f:=v) (D:=(D:Rat)) fun x hx _=>isI_dvd (h.dvd _ (hT.lt x hx).2);have h3:IsI (((6000*D:Nat):Rat)*A6 p v (L.take k)):=by rw[xI];exact h2
 obtain⟨a,b⟩:=VY (wl (by omega) h.dp) h0 h1 h3;have hm:6000*D<=6000*M:=yT _ (xA h.dm);exact⟨zV a (yT _ hm),zV b hm⟩
end Bd
end
section
open Go.RowKit Go.Shelf
attribute [local go_sem] wU
namespace Bd
open Nt Ci Sh
theorem LV(q:Rat):((rq q).2.1.toList==[48])=decide (q=0):=(AM q.num.natAbs).trans (decide_eq_decide.2 ⟨fun h=>Rat.num_eq_zero.1 (Int.natAbs_eq_zero.1 h),fun h=>by rw[h];rfl⟩)
theorem IF{c:Bool}{A B:Prop}(h:c=false)(hb:B):if c=true then A else B:=by subst h;exact hb
theorem IG{c:Bool}{A B:Prop}(h:c=true)(ha:A):if c=true then A else B:=by subst h;exact ha
end Bd
end
section
open Go.RowKit Go.Shelf
namespace Ci
open Nt
theorem JN(s:ByteArray)(h:isN s=true)(h4:s.size<=4)(w:World):
 Calls prog 164 #[.string s] w fun e w'=>e=.returned (.int .i64 (val s:Int))/\Below w.heap.size w w':=by
 have hd:=zh (FL h)
 have hv:Hid (∀k,k<=s.size->A0 (s.data.toList.take k)<10000):=fun k hk=>by
  have h1:=Do (l:=s.data.toList.take k) fun c hc=>hd.o c (yH hc)
  have h2:(s.data.toList.take k).length<=4:=by
   have h3:(s.data.toList.take k).length<=k:=List.length_take_le _ _;omega
  have h3:10^(s.data.toList.take k).length<=10^4:=zW (by omega) h2;omega
 have ad:Hid (∀k (hk:k<s.size),A0 (s.data.toList.take (k+1))=10*A0 (s.data.toList.take k)+(s[k].toNat-48)/\48<=s[k].toNat/\s[k].toNat<=57):=fun k hk=>by
  have aa:k<s.data.toList.length:=by have:=xM s;omega
  have e1:s.data.toList[k]=s[k]:=rfl;have d:=hd.o s.data.toList[k] (zQ aa);rw[e1]at d;have e2:A0 [s[k]]=s[k].toNat-48:=by rw[C8];simp[A0]
  refine⟨?_,d.1,d.2⟩;rw[zS aa,Bv,e1,e2];simp only[zn,yc];omega
 have ae:Hid (val s=A0 (s.data.toList.take s.size)):=by
  have h1:s.data.toList.take s.size=s.data.toList:=yK (by have:=xM s;omega);rw[h1];rfl
 clear h;go_enter func164,ntmps164;go_wp2
 go_loop [3,4] (fun a i=>∃k m:Nat,k<=s.size/\i=.int .i64 (k:Int)/\a=.int .i64 (m:Int)/\Hid (m=A0 (s.data.toList.take k))) (fun _ i=>s.size-(intOf i).toNat)
 case atStart=>exact⟨0,0,zO _,rfl,rfl,rfl⟩
 case round=>
  obtain⟨k,m,hk,rfl,rfl,hm⟩:=hrel;have af:m<10000:=by rw[hm.o];exact hv.o k hk
  by_cases hlt:k<s.size
  .obtain⟨q1,q2,q3⟩:=ad.o k hlt;have ab:=zh (show 10*m+(s[k].toNat-48)=A0 (s.data.toList.take (k+1)) by rw[q1,hm.o]);clear q1;have i0:(0:Int)<=(k:Int):=by omega
   have i1:(k:Int)<(s.size:Int):=by omega
   go_wp2;go_round
   case rel=>exact⟨k+1,10*m+(s[k].toNat-48),by omega,by go_num,by go_num,ab⟩
   case measure=>simp[intOf];omega
  obtain rfl:k=s.size:=by omega
  have hz:=zh (show val s=m by rw[ae.o,hm.o]);go_wp2;go_ret;exact⟨by rw[hz.o];rfl,zI _ _⟩
theorem Ox(g : Bool)(n d : ByteArray)(w : World)(hn : n.size<=140737488355328)(hd:d.size<=140737488355328):
 Calls prog 140 #[.agg #[.bool g,.string n,.string d]] w fun e w'=>e=.returned (.int .i64 (unitsN (g,n,d):Int))/\Below w.heap.size w w':=by
 have hv:Hid (∀W,Calls prog 33 #[.agg #[.bool g,.string n,.string d]] W fun e w'=>e=.returned (.bool (As g n d))/\Below W.heap.size W w'):=fun W=>Dj g n d W hn hd;have ab:Hid (Below w.heap.size w (w.alloc (.cells #[.bool g,.string n,.string d] 34))):=(zI _ w).alloc (zB _) _;have ah:Hid (B3 (w.alloc (.cells #[.bool g,.string n,.string d] 34)) w.heap.size g n d):=B3.new w g n d
 cases h1:As g n d with
 |false=>
  have HG:=zh (Fr (g:=g) (n:=n) (d:=d) (.inl h1));rw[h1]at hv;clear h1;go_enter func140,ntmps140
  go_wp2_with fail
  refine(hv.o _).q fun w1 hb=>?_;have s:=ab.t hb;clear hb;go_wp2;go_ret;exact⟨by rw[HG.o];rfl,s.o⟩
 |true=>
  rw[h1]at hv;obtain⟨q1,q2,q3⟩:=GV h1
  by_cases af:g=true\/4<n.size\/4<d.size
  .have HG:=zh (Fr (g:=g) (n:=n) (d:=d) (.inr af));clear h1 q1 q2 q3;go_enter func140,ntmps140
   go_wp2_with fail
   refine(hv.o _).q fun w1 hb=>?_;have s:=ab.t hb;obtain⟨f1,f2,f3,_,_,_⟩:=(ah.o.below hb).facts;have f4:=(ah.o.below hb).lt;clear hb
   have ai:g=true\/(g=false/\4<n.size)\/(g=false/\n.size<=4/\4<d.size):=by
    cases g
    .rcases af with h|h|h
     .cases h
     .exact .inr (.inl ⟨rfl,h⟩)
     by_cases c:4<n.size
     .exact .inr (.inl ⟨rfl,c⟩)
     exact .inr (.inr ⟨rfl,by omega,h⟩)
    exact .inl rfl
   clear af
   rcases ai with rfl|⟨rfl,z1⟩|⟨rfl,z1,z2⟩
   all_goals (
    go_wp2;go_ret;exact⟨by rw[HG.o];rfl,s.o⟩)
  have z0:g=false:=by
   cases g
   .rfl
   exact absurd (.inl rfl) af
  have z1:n.size<=4:=by omega
  have z2:d.size<=4:=by omega
  have HG:=If h1 z0 z1 z2;have ka:Hid (∀W,Calls prog 164 #[.string n] W fun e w'=>e=.returned (.int .i64 (val n:Int))/\Below W.heap.size W w'):=fun W=>JN n q1 z1 W;have kb:Hid (∀W,Calls prog 164 #[.string d] W fun e w'=>e=.returned (.int .i64 (val d:Int))/\Below W.heap.size W w'):=fun W=>JN d q2 z2 W;have v1:=RO q1 z1;have v2:=RO q2 z2;subst z0;clear h1 af q1 q2;generalize hA:val n=a at *;generalize hB:val d=b at *;clear hA hB;have v3:1<=b:=by omega
  have ai:(b<a)\/(a<=b/\6000%b≠0)\/(a<=b/\6000%b=0):=by omega
  rcases ai with c1|⟨c1,c2⟩|⟨c1,c2⟩
  .rw[zE (.inl c1)]at HG;replace HG:=zh HG;go_enter func140,ntmps140
   go_wp2_with fail
   refine(hv.o _).q fun w1 hb=>?_;have s:=ab.t hb;have aa:=zh (ah.o.below hb);obtain⟨f1,f2,f3,_,_,_⟩:=aa.o.facts;have f4:=aa.o.lt;clear hb
   go_wp2_with fail
   refine(ka.o _).q fun w2 hb=>?_;have ad:=s.t hb;have ae:=zh (aa.o.below hb);clear hb f1 f2 f3 f4;obtain⟨f1,f2,f3,_,_,_⟩:=ae.o.facts;have f4:=ae.o.lt
   go_wp2_with fail
   refine(kb.o _).q fun w3 hb=>?_;have ag:=ad.t hb;clear hb f1 f2 f3 f4;go_wp2;go_ret;exact⟨by rw[HG.o];rfl,ag.o⟩
  .rw[zE (.inr c2)]at HG;replace HG:=zh HG;have t1:((6000:Int)%(b:Int) != 0)=true:=by rw[zj,TZ];omega
   go_enter func140,ntmps140
   go_wp2_with fail
   refine(hv.o _).q fun w1 hb=>?_;have s:=ab.t hb;have aa:=zh (ah.o.below hb);obtain⟨f1,f2,f3,_,_,_⟩:=aa.o.facts;have f4:=aa.o.lt;clear hb
   go_wp2_with fail
   refine(ka.o _).q fun w2 hb=>?_;have ad:=s.t hb;have ae:=zh (aa.o.below hb);clear hb f1 f2 f3 f4;obtain⟨f1,f2,f3,_,_,_⟩:=ae.o.facts;have f4:=ae.o.lt
   go_wp2_with fail
   refine(kb.o _).q fun w3 hb=>?_;have ag:=ad.t hb;clear hb f1 f2 f3 f4;go_wp2;go_ret;exact⟨by rw[HG.o];rfl,ag.o⟩
  rw[zC (by omega)]at HG;replace HG:=zh HG;have t1:((6000:Int)%(b:Int) != 0)=false:=by rw[yo,TZ];omega
  have t2:a*(6000/b)<=6000:=zV (yO _ c1) (Nat.mul_div_le _ _);have t3:(0:Int)<=(a:Int)*((6000:Int)/(b:Int)):=by have:=Int.natCast_nonneg (a*(6000/b));rw[ya]at this;exact this
  have t4 : (a : Int) * ((6000 : Int) / (b : Int)) <= 6000 := by have h:((a*(6000/b):Nat):Int)<=6000:=by omega
                                                                 rw[ya]at h;exact h
  have HP:Hid (((a*(6000/b):Nat):Int)=(a:Int)*((6000:Int)/(b:Int))):=by rw[ya];rfl
  clear t2;go_enter func140,ntmps140
  go_wp2_with fail
  refine(hv.o _).q fun w1 hb=>?_;have s:=ab.t hb;have aa:=zh (ah.o.below hb);obtain⟨f1,f2,f3,_,_,_⟩:=aa.o.facts;have f4:=aa.o.lt;clear hb
  go_wp2_with fail
  refine(ka.o _).q fun w2 hb=>?_;have ad:=s.t hb;have ae:=zh (aa.o.below hb);clear hb f1 f2 f3 f4;obtain⟨f1,f2,f3,_,_,_⟩:=ae.o.facts;have f4:=ae.o.lt
  go_wp2_with fail
  refine(kb.o _).q fun w3 hb=>?_;have ag:=ad.t hb;clear hb f1 f2 f3 f4;go_wp2;go_ret;exact⟨by rw[HG.o,HP.o];rfl,ag.o⟩
def T7(k:Nat):Code->Bool
 |.region a _ _=>a==k
 |_=>false
noncomputable def rlR(j:Nat):Code:=((Tryz.f97.body.map Bt).bind fun l=>l.find? (T7 j)).getD .skip
theorem VZ{c0 c2 c3 c4 c5 c8 c9 ad ae af ag ah ai aj ak al am an ao aq ar au av aw ax ay az aA aB aC aD aE aF aG aH aI aJ aK aL aM aN aO aP aQ aR aS aT aU aV aW aX aY aZ a0 a1 a2 a3 a4 a5 a6 a7 a8 d s aa ab ba bb bc bd be bf bg bh bi bj bk bm bn bo bp bq br bs bt bu bv bx bz bA bB a78 a79 bC bD bE bF bG bH bI bJ:Value}{Q:Exit->Act->World->Prop}(xb b of cap k len:Nat)(co a pc ph:Int)(r:Bool)(hr:r=decide (0<k/\(co<pc\/(co=pc/\a<=ph))))(w:World)(hk:k<len)(bM:len<=140737488355328)(u2:w.cell? ⟨xb,0,none⟩=some (.int .i64 co))(u3:w.cell? ⟨xb,1,none⟩=some (.int .i64 a))(_u9:xb<w.heap.size)(hp:0<k->w.cell? ⟨b,of+(k-1)*5,none⟩=some (.int .i64 pc)/\w.cell? ⟨b,of+(k-1)*5+1,none⟩=some (.int .i64 ph))
 (h:∀(u53 u54 u55 u56 u57 u58 u59 u60 u61 u62 u63 u64 u65 u66 u67 u68 u69 u70 u71 u72 u73 u74 u75 u76 u77 u78 u79 u80 u81 u82 u83 u84 u85 u86:Value)(q:Nat),Q .normal ⟨#[c0,.slice (some ⟨b,of,none⟩) len cap,c2,c3,c4,c5,.int .i64 (k:Int),.pointer (some ⟨xb,0,none⟩),c8,c9,ad,ae,af,ag,ah,ai,aj,ak,al,am,an,ao,aq,ar,au,av,aw,ax,ay,az,aA,aB,aC,aD,aE,aF,aG,aH,aI,aJ,aK,aL,aM,aN,aO,aP,aQ,aR,aS,aT,aU,aV,aW,u53,u54,u55,u56,u57,u58,u59,u60,u61,u62,u63,u64,u65,u66,u67,u68,u69,u70,u71,u72,u73,u74,u75,u76,u77,u78,u79,u80,u81,u82,u83,u84,u85,u86,.bool r,aX,aY,aZ,a0,a1,a2,a3,a4,a5,a6,a7,a8,d,s,aa,ab],[]⟩ (w.drewN q)):
 Code.wp prog (rlR 8) Q ⟨#[c0,.slice (some ⟨b,of,none⟩) len cap,c2,c3,c4,c5,.int .i64 (k:Int),.pointer (some ⟨xb,0,none⟩),c8,c9,ad,ae,af,ag,ah,ai,aj,ak,al,am,an,ao,aq,ar,au,av,aw,ax,ay,az,aA,aB,aC,aD,aE,aF,aG,aH,aI,aJ,aK,aL,aM,aN,aO,aP,aQ,aR,aS,aT,aU,aV,aW,ba,bb,bc,bd,be,bf,bg,bh,bi,bj,bk,bm,bn,bo,bp,bq,br,bs,bt,bu,bv,bx,bz,bA,bB,a78,a79,bC,bD,bE,bF,bG,bH,bI,bJ,aX,aY,aZ,a0,a1,a2,a3,a4,a5,a6,a7,a8,d,s,aa,ab],[]⟩ w:=by
 conv=>arg 2;whnf
 conv=>arg 4;zeta
 replace h:=zh h;have bL:k<=140737488355328:=by omega
 by_cases hk0:k=0
 .have m1:decide (0<(k:Int))=false:=zD (by omega);have m2:decide (0<k)=false:=zD (by omega);obtain rfl:r=false:=by rw[hr,zD (by omega)]
  clear hr hp;replace hk0:=zh hk0
  go_wp2_with fail
  go_quiet (fail)
  go_wp2;exact h.o ..
 have m1:decide (0<(k:Int))=true:=zH (by omega);have m2:decide (0<k)=true:=zH (by omega);obtain⟨p1,p2⟩:=hp (by omega);have j2:(0:Int)<=(k:Int)-1:=by omega
 have j3:(k:Int)-1<(len:Int):=by omega
 have j4:IntKind.i64.wrap ((k:Int)-1)=(k:Int)-1:=yi _ (by omega);have j5:((k:Int)-1).toNat=k-1:=by omega
 have a9:0<k:=by omega
 clear hp hk0;have bK:co<pc\/pc<co\/(co=pc/\a<=ph)\/(co=pc/\ph<a):=by omega
 rcases bK with c1|c1|⟨c1,c2⟩|⟨c1,c2⟩
 .obtain rfl:r=true:=by rw[hr,zH ⟨a9,.inl c1⟩]
  have m3:decide (co<pc)=true:=zH c1;clear hr
  go_wp2_with fail
  go_quiet (fail)
  go_wp2;exact h.o ..
 .obtain rfl:r=false:=by rw[hr,zD (by omega)]
  have m3:decide (co<pc)=false:=zD (by omega);have m4:(co==pc)=false:=by rw[zJ];omega
  clear hr
  go_wp2_with fail
  go_quiet (fail)
  go_wp2;exact h.o ..
 .obtain rfl:r=true:=by rw[hr,zH ⟨a9,.inr ⟨c1,c2⟩⟩]
  have m3:decide (co<pc)=false:=zD (by omega);have m4:(co==pc)=true:=by rw[yL];exact c1
  have m5:decide (a<=ph)=true:=zH c2;clear hr;replace c1:=zh c1
  go_wp2_with fail
  go_quiet (fail)
  go_wp2;exact h.o ..
 obtain rfl:r=false:=by rw[hr,zD (by omega)]
 have m3:decide (co<pc)=false:=zD (by omega);have m4:(co==pc)=true:=by rw[yL];exact c1
 have m5:decide (a<=ph)=false:=zD (by omega);clear hr;replace c1:=zh c1
 go_wp2_with fail
 go_quiet (fail)
 go_wp2;exact h.o ..
theorem UH{c0 c1 c2 c3 c4 c6 c8 c9 ad ae af ag ah ai aj ak al am an ao aq ar au av aw ax ay az aA aB aC aD aE aF aG aH aI aJ aK aL aM aN aO aP aQ aR aS aT aU aV aW aX aY aZ a0 a1 a2 a3 a4 a5 a6 a7 a8 a9 ba bb bc bd be bf bg bh bi bj bk bm bn bo bp bq br bs bt bu bv bx bz bA a d s aa bC a89 bD bE bF bG bH bI bJ bK:Value}{Q:Exit->Act->World->Prop}(xb sb n co U:Nat)(bO o:Int)(g:Bool)(nn dd:ByteArray)(w:World)(bP:co<n)(hU:U<=6000)(bQ:0<=o)(bR:o<=6000)(hX:Bk w xb 55 [.int .i64 (co:Int),.int .i64 bO,.bool g,.string nn,.string dd])(hs:w.cell? ⟨sb,co,none⟩=some (.int .i64 o))(hf:w.frozen? ⟨sb,co,none⟩=false)(ab:sb<w.heap.size)(ku:∀W,Calls prog 140 #[.agg #[.bool g,.string nn,.string dd]] W fun e w'=>e=.returned (.int .i64 (U:Int))/\Below W.heap.size W w')
 (h:∀(u88 u89 u90 u91 u92 u93 u94 u95 u96 u97:Value)(w3:World)(_:Below w.heap.size w w3),Q .normal ⟨#[c0,c1,c2,c3,c4,.slice (some ⟨sb,0,none⟩) n n,c6,.pointer (some ⟨xb,0,none⟩),c8,c9,ad,ae,af,ag,ah,ai,aj,ak,al,am,an,ao,aq,ar,au,av,aw,ax,ay,az,aA,aB,aC,aD,aE,aF,aG,aH,aI,aJ,aK,aL,aM,aN,aO,aP,aQ,aR,aS,aT,aU,aV,aW,aX,aY,aZ,a0,a1,a2,a3,a4,a5,a6,a7,a8,a9,ba,bb,bc,bd,be,bf,bg,bh,bi,bj,bk,bm,bn,bo,bp,bq,br,bs,bt,bu,bv,bx,u88,u89,u90,u91,u92,u93,u94,u95,u96,u97,bz,bA,a,d,s,aa],[]⟩ (w3.setCell ⟨sb,co,none⟩ (.int .i64 (o+(U:Int))))):
 Code.wp prog (rlR 10) Q ⟨#[c0,c1,c2,c3,c4,.slice (some ⟨sb,0,none⟩) n n,c6,.pointer (some ⟨xb,0,none⟩),c8,c9,ad,ae,af,ag,ah,ai,aj,ak,al,am,an,ao,aq,ar,au,av,aw,ax,ay,az,aA,aB,aC,aD,aE,aF,aG,aH,aI,aJ,aK,aL,aM,aN,aO,aP,aQ,aR,aS,aT,aU,aV,aW,aX,aY,aZ,a0,a1,a2,a3,a4,a5,a6,a7,a8,a9,ba,bb,bc,bd,be,bf,bg,bh,bi,bj,bk,bm,bn,bo,bp,bq,br,bs,bt,bu,bv,bx,bC,a89,bD,bE,bF,bG,bH,bI,bJ,bK,bz,bA,a,d,s,aa],[]⟩ w:=by
 conv=>arg 2;whnf
 conv=>arg 4;zeta
 replace h:=zh h;have c0:=hX.c0;have c2:=hX.c2;have c3:=hX.c3;have c4:=hX.c4;have c9:=hX.lt;have j0:(0:Int)<=(co:Int):=by omega
 have j1:(co:Int)<(n:Int):=by omega
 have jw:IntKind.i64.wrap (o+(U:Int))=o+(U:Int):=yi _ (by omega);have bM:Hid (∀W1 W2,Below w.heap.size w W1->Below W1.heap.size W1 W2->Below w.heap.size w W2):=fun W1 W2 h1 h2=>h1.trans (h2.mono h1.size);have bL:Hid (Below w.heap.size w w.drew):=(zI _ w).drew
 have bN:Hid (∀W,Below w.heap.size w W->W.cell? ⟨xb,0,none⟩=some (.int .i64 (co:Int))/\W.cell? ⟨xb,2,none⟩=some (.bool g)/\W.cell? ⟨xb,3,none⟩=some (.string nn)/\W.cell? ⟨xb,4,none⟩=some (.string dd)/\W.cell? ⟨sb,co,none⟩=some (.int .i64 o)/\W.frozen? ⟨sb,co,none⟩=false/\xb<W.heap.size/\sb<W.heap.size):=fun W hb=>
  ⟨(hb.cell (p:=⟨xb,0,none⟩) c9).trans c0,(hb.cell (p:=⟨xb,2,none⟩) c9).trans c2,(hb.cell (p:=⟨xb,3,none⟩) c9).trans c3,(hb.cell (p:=⟨xb,4,none⟩) c9).trans c4,(hb.cell (p:=⟨sb,co,none⟩) ab).trans hs,(hb.frozen (p:=⟨sb,co,none⟩) ab).trans hf,zL c9 hb.size,zL ab hb.size⟩
 replace ku:=zh ku;clear hX
 go_wp2_with fail
 refine yS ?_
 go_region_with (go_at_call 140;refine(ku.o _).q fun w3 hb=>?_;have bB:=zh (bM.o _ _ bL.o hb);obtain⟨d1,d2,d3,d4,d5,d6,d7,d8⟩:=bN.o _ bB.o;clear hb)
 all_goals (
  refine yF ?_;exact h.o _ _ _ _ _ _ _ _ _ _ _ bB.o)
theorem Oy(A:Option Addr)(cap n:Nat)(l:List Lk)(w:World)(hl:InLk w A l)(aI:l.length<=140737488355328)(hn:n<=60)(hz:∀x,x∈l->x.2.2.2.1.size<=140737488355328/\x.2.2.2.2.size<=140737488355328):
 Calls prog 97 #[.int .i64 (n:Int),.slice A l.length cap] w fun e w'=>e=.returned (.bool (Dc n l))/\Below w.heap.size w w':=by
 have aW:=xG (P:=prog) 26 3 (.int .i64 0) 8 underlying26 Hc rfl .i64 .i64 n (by omega) (by omega);have aS:=zh (fun(k:Nat) (h:k<l.length) (hb:¬BU n l k h)=>Ld h hb);have aR:=zh (Le (n:=n) (l:=l));have az:=zh (RoI.made w n 3);have aw:Hid (Below w.heap.size w (w.alloc (.cells (madeCells #[.int .i64 0] n) 3))):=(zI _ w).alloc (zB _) _;have aZ:=zh (Kb (n:=n) (l:=l));replace hl:=zh hl;replace hz:=zh hz;go_enter func97,ntmps97;go_wp2;obtain⟨wa,aK⟩:∃x,x=w.alloc (.cells (madeCells #[.int .i64 0] n) 3):=⟨_,rfl⟩;rw[<-aK]at az aw ⊢;clear aW aK
 go_loopw [6] (fun ix wr=>∃(k:Nat)(o:Nat->Int),k<=l.length/\ix=.int .i64 (k:Int)/\Hid (Kp [w.heap.size] wa wr)/\Hid (RoI wr w.heap.size n o)/\Hid (∀c,c<n->o c=(sumU (l.take k) (c:Int):Int))/\Hid (∀i (h:i<l.length),i<k->BU n l i h)) (fun ix _=>l.length-(intOf ix).toNat)
 case atStart=>exact⟨0,_,zO _,rfl,Kp.refl _ _,az,fun c _=>by simp[sumU],fun i _ h=>absurd h (zi _)⟩
 case round=>
  obtain⟨k,o,hk,rfl,hK,hR,ho,hI⟩:=hrel;clear az;have am:Hid (Below w.heap.size w wr):=hK.o.to_below aw.o fun x hx=>by rw[List.mem_singleton.1 hx];exact zB _
  by_cases hlt:k<l.length
  .obtain ⟨b,of,rfl,aD,aq⟩:=(hl.o.below am.o) (by omega);obtain⟨e1,e2,e3,e4,e5⟩:=aq k hlt;have aM:=hz.o l[k] (zQ hlt);have aa:Hid (¬BU n l k hlt->Dc n l=false):=fun h=>aS.o k hlt h
   have aO:Hid (BU n l k hlt->∀j (h:j<l.length),j<k+1->BU n l j h):=fun h j h1 h3=>by
    by_cases e:j=k
    .subst e;exact h
    exact hI.o j h1 (by omega)
   have s:Hid (BU n l k hlt<->Own n l[k]/\(0<k->IO (l[k-1]'(by omega)) l[k])/\sumU (l.take (k+1)) l[k].1<=6000):=wY;have ai:=sumU_take hlt;have au:=aZ.o k hk hI.o;have ak:Hid (0<k->wr.cell? ⟨b,of+(k-1)*5,none⟩=some (.int .i64 (l[k-1]'(by omega)).1)/\wr.cell? ⟨b,of+(k-1)*5+1,none⟩=some (.int .i64 (l[k-1]'(by omega)).2.1)):=fun h=>⟨(aq (k-1) (by omega)).1,(aq (k-1) (by omega)).2.1⟩;obtain⟨x,hx⟩:∃x,x=l[k]:=⟨_,rfl⟩;rw[<-hx]at e1 e2 e3 e4 e5 aM s ai;replace hx:=zh hx;obtain⟨co,d,g,nn,dd⟩:=x;obtain⟨z1,z2⟩:=aM;replace z1:nn.size<=140737488355328:=z1;replace z2:dd.size<=140737488355328:=z2;replace e1:wr.cell? ⟨b,of+k*5,none⟩=some (.int .i64 co):=e1;replace e2:wr.cell? ⟨b,of+k*5+1,none⟩=some (.int .i64 d):=e2;replace e3:wr.cell? ⟨b,of+k*5+2,none⟩=some (.bool g):=e3;replace e4:wr.cell? ⟨b,of+k*5+3,none⟩=some (.string nn):=e4;replace e5:wr.cell? ⟨b,of+k*5+4,none⟩=some (.string dd):=e5;clear aq hx;have j0:(0:Int)<=(k:Int):=by omega
   have j1:(k:Int)<(l.length:Int):=by omega
   have hX:=zh (Bk.new wr 55 [.int .i64 co,.int .i64 d,.bool g,.string nn,.string dd]);have ad:Hid (Below w.heap.size w (wr.alloc (.cells #[.int .i64 co,.int .i64 d,.bool g,.string nn,.string dd] 55))):=am.o.alloc am.o.size _;have hO:Own n (co,d,g,nn,dd)<->(0<=co/\co<n)/\(0<=d/\d<n)/\co≠d/\unitsN (g,nn,dd)≠0:=wY;have aT:co<0\/(0<=co/\(n:Int)<=co)\/((0<=co/\co<n)/\d<0)\/((0<=co/\co<n)/\0<=d/\(n:Int)<=d)\/((0<=co/\co<n)/\(0<=d/\d<n)/\co=d)\/((0<=co/\co<n)/\(0<=d/\d<n)/\co≠d):=by omega
   rcases aT with h1|⟨h1,h2⟩|⟨⟨h1,h2⟩,h3⟩|⟨⟨h1,h2⟩,h3,h4⟩|⟨⟨h1,h2⟩,⟨h3,h4⟩,h5⟩|⟨⟨h1,h2⟩,⟨h3,h4⟩,h5⟩
   .have hG:=zh (aa.o fun h=>by have:=(hO.1 (s.o.1 h).1).1.1;omega);have m1:decide (co<0)=true:=zH h1;clear s hO;go_wp2;go_ret;exact⟨Ag hG.o.symm,ad.o⟩
   .have hG:=zh (aa.o fun h=>by have:=(hO.1 (s.o.1 h).1).1.2;omega);have m1:decide (co<0)=false:=zD (by omega);have m2:decide ((n:Int)<=co)=true:=zH h2;clear s hO;go_wp2;go_ret;exact⟨Ag hG.o.symm,ad.o⟩
   .have hG:=zh (aa.o fun h=>by have:=(hO.1 (s.o.1 h).1).2.1.1;omega);have m1:decide (co<0)=false:=zD (by omega);have m2:decide ((n:Int)<=co)=false:=zD (by omega);have m3:decide (d<0)=true:=zH h3;clear s hO;go_wp2;go_ret;exact⟨Ag hG.o.symm,ad.o⟩
   .have hG:=zh (aa.o fun h=>by have:=(hO.1 (s.o.1 h).1).2.1.2;omega);have m1:decide (co<0)=false:=zD (by omega);have m2:decide ((n:Int)<=co)=false:=zD (by omega);have m3:decide (d<0)=false:=zD (by omega);have m4:decide ((n:Int)<=d)=true:=zH h4;clear s hO;go_wp2;go_ret;exact⟨Ag hG.o.symm,ad.o⟩
   .have hG:=zh (aa.o fun h=>by have:=(hO.1 (s.o.1 h).1).2.2.1;omega);have m1:decide (co<0)=false:=zD (by omega);have m2:decide ((n:Int)<=co)=false:=zD (by omega);have m3:decide (d<0)=false:=zD (by omega);have m4:decide ((n:Int)<=d)=false:=zD (by omega);have m5:(co==d)=true:=by rw[yL];exact h5
    replace h5:=zh h5;clear s hO;go_wp2;go_ret;exact⟨Ag hG.o.symm,ad.o⟩
   have m1:decide (co<0)=false:=zD (by omega);have m2:decide ((n:Int)<=co)=false:=zD (by omega);have m3:decide (d<0)=false:=zD (by omega);have m4:decide ((n:Int)<=d)=false:=zD (by omega);have m5:(co==d)=false:=by rw[zJ];exact h5
   have ku:Hid (∀W,Calls prog 140 #[.agg #[.bool g,.string nn,.string dd]] W fun e w'=>e=.returned (.int .i64 (unitsN (g,nn,dd):Int))/\Below W.heap.size W w'):=fun W=>Ox g nn dd W z1 z2;have av:=Lc (g,nn,dd);obtain⟨U,hU⟩:∃U,U=unitsN (g,nn,dd):=⟨_,rfl⟩;rw[<-hU]at ku av hO;have ar:unitsN (lkP (co,d,g,nn,dd))=U:=hU.symm;rw[ar]at ai;clear hU ar
   by_cases hu:U=0
   .have hG:=zh (aa.o fun h=>(hO.1 (s.o.1 h).1).2.2.2 hu);have m6:((U:Int)==0)=true:=by rw[yL];omega
    replace hu:=zh hu;clear s hO
    go_wp2_with fail
    refine(ku.o _).q fun w2 hb=>?_;have ax:=ad.t hb;clear hb;go_wp2;go_ret;exact⟨Ag hG.o.symm,ax.o⟩
   have m6:((U:Int)==0)=false:=by rw[zJ];omega
   have aV:=hR.o.lt;have aB:=ho.o
   go_wp2_with fail
   refine(ku.o _).q fun w2 hb=>?_;have ax:=ad.t hb;have ah:=hX.o.below hb;have aA:=zh ((hR.o.alloc (.cells #[.int .i64 co,.int .i64 d,.bool g,.string nn,.string dd] 55)).below hb);have aj:=zh ((hK.o.alloc (.cells #[.int .i64 co,.int .i64 d,.bool g,.string nn,.string dd] 55)).below hb)
   have af:0<k->w2.cell? ⟨b,of+(k-1)*5,none⟩=some (.int .i64 (l[k-1]'(by omega)).1)/\w2.cell? ⟨b,of+(k-1)*5+1,none⟩=some (.int .i64 (l[k-1]'(by omega)).2.1):=fun h=>by
    obtain⟨q1,q2⟩:=ak.o h;have aH:b<(wr.alloc (.cells #[.int .i64 co,.int .i64 d,.bool g,.string nn,.string dd] 55)).heap.size:=by simp;omega
    exact⟨(hb.cell (p:=⟨b,_,none⟩) aH).trans ((zk wr _ (⟨b,of+(k-1)*5,none⟩:Addr) aD).trans q1),(hb.cell (p:=⟨b,_,none⟩) aH).trans ((zk wr _ (⟨b,of+(k-1)*5+1,none⟩:Addr) aD).trans q2)⟩
   clear hb ak e1 e2 e3 e4 e5 hX ad aD hK hR
   obtain ⟨pc,ph,aY,al⟩:∃pc ph:Int,(0<k->w2.cell? ⟨b,of+(k-1)*5,none⟩=some (.int .i64 pc)/\w2.cell? ⟨b,of+(k-1)*5+1,none⟩=some (.int .i64 ph))/\((0<k->IO (l[k-1]'(by omega)) (co,d,g,nn,dd))<->(0<k->pc<co\/(pc=co/\ph<d))) :=
    ⟨(l[k-1]'(by omega)).1,(l[k-1]'(by omega)).2.1,af,wY⟩
   have ag:=zh al;clear af al;obtain⟨xb,aL⟩:∃x,x=wr.heap.size:=⟨_,rfl⟩;rw[<-aL]at ah aV ⊢;clear aL;obtain⟨r,hr⟩:∃r,r=decide (0<k/\(co<pc\/(co=pc/\d<=ph))):=⟨_,rfl⟩
   go_upto_region 8 with(fail)
   refine VZ xb b of cap k l.length co d pc ph r hr w2 hlt aI (ah.c0) (ah.c1) ah.lt aY ?_;intro a2 a3 a4 a5 a6 a7 a8 a9 ba bb bc bd be bf bg bh bi bj bk bm bn bo bp bq br bs bt bu bv bx bz bA bB bC q9
   cases r with
   |true=>
    have hG:=zh (aa.o fun h=>by
     have h2:=(s.o.1 h).2.1;have h3:=zf hr.symm;have h4:=ag.o.1 h2 h3.1;omega)
    have aN:=zh (Bn ax.o q9);clear hr s hO ah;go_wp2;go_ret;exact⟨Ag hG.o.symm,aN.o⟩
   |false=>
    have aJ:Hid (0<k->IO (l[k-1]'(by omega)) (co,d,g,nn,dd)):=ag.o.2 fun h0=>by
     have h3:=of_decide_eq_false hr.symm;omega
    clear hr;obtain⟨cn,aU⟩:∃c:Nat,co=(c:Int):=⟨co.toNat,by omega⟩;subst aU;have ab:cn<n:=by omega
    have ae:=aB cn ab;have a1:=au (cn:Int);have an:Hid (RoI (w2.drewN q9) w.heap.size n o):=⟨aA.o.lt,aA.o.cell,aA.o.fr⟩;have aG:Bk (w2.drewN q9) xb 55 [.int .i64 (cn:Int),.int .i64 d,.bool g,.string nn,.string dd]:=ah;have aP:Hid (Kp [w.heap.size] wa (w2.drewN q9)):=⟨aj.o.os,aj.o.tape,aj.o.output,aj.o.size,aj.o.block⟩
    go_upto_region 10 with(fail)
    refine UH xb w.heap.size n cn U d (o cn) g nn dd (w2.drewN q9) ab av (by rw[ae];omega) (by rw[ae];omega) aG (an.o.cell cn ab) (an.o.fr cn) an.o.lt ku.o ?_;intro bD bE bF bG bH bI bJ bK bL bM w3 hb
    conv=>zeta
    have ao:=zh ((an.o.below hb).set ab (o cn+(U:Int)));have ay:=zh ((aP.o.below hb).set (a:=⟨w.heap.size,cn,none⟩) (.int .i64 (o cn+(U:Int))) (.inl (List.mem_singleton.2 rfl)));have aE:Hid (Below w.heap.size w (w3.setCell ⟨w.heap.size,cn,none⟩ (.int .i64 (o cn+(U:Int))))):=ay.o.to_below aw.o fun x hx=>by rw[List.mem_singleton.1 hx];exact zB _
    have aC:=(aG.below hb).far (p:=⟨w.heap.size,cn,none⟩) (by simp;omega) (.int .i64 (o cn+(U:Int)));have f1:=aC.c0;have f2:=aC.lt;have f3:=ao.o.cell cn ab;rw[Bg]at f3;have f4:=ao.o.lt;have j2:(cn:Int)<(n:Int):=by omega
    obtain⟨W4,aF⟩:∃W,W=w3.setCell ⟨w.heap.size,cn,none⟩ (.int .i64 (o cn+(U:Int))):=⟨_,rfl⟩;rw[<-aF]at ao ay aE f1 f2 f4 f3 ⊢;clear aC aF;have a0:sumU (l.take (k+1)) (cn:Int)=sumU (l.take k) (cn:Int)+U:=by rw[ai,zE rfl]
    by_cases hbig:6000<sumU (l.take (k+1)) (cn:Int)
    .have hG:=zh (aa.o fun h=>by have h6:sumU (l.take (k+1)) (cn:Int)<=6000:=(s.o.1 h).2.2;omega);have m7:decide (6000<o cn+(U:Int))=true:=zH (by rw[ae];omega);clear s hO ai ab ae;go_wp2;go_ret;exact⟨Ag hG.o.symm,aE.o⟩
    have aQ:=zh (aO.o (s.o.2 ⟨hO.2 ⟨⟨h1,h2⟩,⟨h3,h4⟩,h5,hu⟩,aJ.o,(by omega:sumU (l.take (k+1)) (cn:Int)<=6000)⟩));have m7:decide (6000<o cn+(U:Int))=false:=zD (by rw[ae];omega)
    have aX:Hid (∀c,c<n->E0 o cn (o cn+(U:Int)) c=(sumU (l.take (k+1)) (c:Int):Int)):=fun c hc=>by
     by_cases e:c=cn
     .subst e;rw[Bg,ae,a0];omega
     rw[AS e,aB c hc,ai,zC fun e2=>e (by simp only[Int.natCast_inj]at e2;exact e2.symm)];omega
    clear s hO ai ab ae aB au;go_wp2;exact⟨⟨k+1,_,by omega,by go_num,ay,ao,aX,aQ⟩,by simp only[intOf];omega⟩
  obtain rfl:k=l.length:=by omega
  have hG:=zh (aR.o fun j h=>hI.o j h h);go_wp2;go_ret;exact⟨Ag hG.o.symm,am.o⟩
noncomputable def rsR(j:Nat):Code:=((Tryz.f46.body.map Bt).bind fun l=>l.find? (T7 j)).getD .skip
theorem Wa{c0 c2 c4 c5 c6 c7 c8 c9 s aa ab ad ae af ag ah ai aj ak al am an ao aq ar au av ax ay a17 a18 a19 az aA aB aC aD aE aF aG aH aI aJ aK aL aM aN aO aP aQ aR aS:Value}{Q:Exit->Act->World->Prop}(xb b of cp k len:Nat)(A2 A3:Option Addr)(l2 d2 l3 d3:Nat)(nm pm:ByteArray)(r:Bool)(hr:r=(!A4 nm||(decide (0<k)&&IP nm pm)))(w:World)(hk:k<len)(aT:len<=140737488355328)(hX:Bk w xb 25 [.slice (some ⟨b,of,none⟩) len cp,.slice A2 l2 d2,.slice A3 l3 d3])(_hbl:b<w.heap.size)(hz:nm.size<=140737488355328)(e1:w.cell? ⟨b,of+k,none⟩=some (.string nm))(e2:0<k->w.cell? ⟨b,of+(k-1),none⟩=some (.string pm))
 (h:∀(u15 u16 u17 u18 u19 u20 u21 u22 u23 u24 u25 u26 u27 u28 u29 u30 u31 u32 u33 u34 u35 u36 u37 u38:Value)(q:Nat),Q .normal ⟨#[c0,.pointer (some ⟨xb,0,none⟩),c2,.int .i64 (k:Int),c4,c5,c6,c7,c8,c9,s,aa,ab,ad,ae,u15,u16,u17,u18,u19,u20,u21,u22,u23,u24,u25,u26,u27,u28,u29,u30,u31,u32,u33,u34,u35,u36,u37,u38,.bool r,af,ag,ah,ai,aj,ak,al,am,an,ao,aq,ar,au,av],[]⟩ (w.drewN q)):
 Code.wp prog (rsR 6) Q ⟨#[c0,.pointer (some ⟨xb,0,none⟩),c2,.int .i64 (k:Int),c4,c5,c6,c7,c8,c9,s,aa,ab,ad,ae,ax,ay,a17,a18,a19,az,aA,aB,aC,aD,aE,aF,aG,aH,aI,aJ,aK,aL,aM,aN,aO,aP,aQ,aR,aS,af,ag,ah,ai,aj,ak,al,am,an,ao,aq,ar,au,av],[]⟩ w:=by
 conv=>arg 2;whnf
 conv=>arg 4;zeta
 replace h:=zh h;have kn:Hid (∀q,Calls prog 96 #[.string nm] (w.drewN q) fun e w'=>e=.returned (.bool (A4 nm))/\∃r,w'=(w.drewN q).drewN r):=fun q=>(TY nm (w.drewN q) (by omega)).mono fun e w' h=>⟨h.1,0,h.2⟩;have c0:=hX.c0;have c9:=hX.lt;have j0:(0:Int)<=(k:Int):=by omega
 have j1:(k:Int)<(len:Int):=by omega
 have d:=OD 9 nm pm;clear hX
 cases aw:A4 nm with
 |false=>
  rw[aw]at kn hr;obtain rfl:r=true:=hr;clear e2
  go_wp2_with fail
  go_quiet ((go_at_call 96;exact Calls.quiet_of (kn.o _)))
  go_wp2;exact h.o ..
 |true=>
  rw[aw]at kn hr
  by_cases hk0:k=0
  .have m1:decide (0<(k:Int))=false:=zD (by omega);have m2:decide (0<k)=false:=zD (by omega);rw[m2]at hr;obtain rfl:r=false:=hr;clear e2;replace hk0:=zh hk0
   go_wp2_with fail
   go_quiet ((go_at_call 96;exact Calls.quiet_of (kn.o _)))
   go_wp2;exact h.o ..
  have m1:decide (0<(k:Int))=true:=zH (by omega);have m2:decide (0<k)=true:=zH (by omega);have p1:=e2 (by omega);have j2:(0:Int)<=(k:Int)-1:=by omega
  have j3:(k:Int)-1<(len:Int):=by omega
  have j4:IntKind.i64.wrap ((k:Int)-1)=(k:Int)-1:=yi _ (by omega);have j5:((k:Int)-1).toNat=k-1:=by omega
  rw[m2]at hr;clear e2
  cases a:IP nm pm with
  |true=>
   rw[a]at hr d;obtain rfl:r=true:=hr;clear a
   go_wp2_with fail
   go_quiet ((go_at_call 96;exact Calls.quiet_of (kn.o _)))
   go_wp2;exact h.o ..
  |false=>
   rw[a]at hr d;obtain rfl:r=false:=hr;clear a
   go_wp2_with fail
   go_quiet ((go_at_call 96;exact Calls.quiet_of (kn.o _)))
   go_wp2;exact h.o ..
theorem FW(s:SR)(Ap Ac Av:Option Addr)(cp cc cv:Nat)(w:World)(hs:StIn w s Ap Ac Av):
 Calls prog 46 #[.agg #[.slice Ap s.ps.length cp,.slice Ac s.cap.length cc,.slice Av s.vot.length cv]] w fun e w'=>e=.returned (.bool (Am s))/\Below w.heap.size w w':=by
 have ai:=hs.np;have aq:=zh (fun(k:Nat) (h:k<s.ps.length) (hb:¬C4 s.ps k h)=>Jj (l:=s.ps) h hb);have ao:=zh (Jk (l:=s.ps));have ad:Hid (Bk (w.alloc (.cells #[.slice Ap s.ps.length cp,.slice Ac s.cap.length cc,.slice Av s.vot.length cv] 25)) w.heap.size 25 (SC s Ap Ac Av cp cc cv)):=Bk.new w _ _;have ae:Hid (Below w.heap.size w (w.alloc (.cells #[.slice Ap s.ps.length cp,.slice Ac s.cap.length cc,.slice Av s.vot.length cv] 25))):=(zI _ w).alloc (zB _) _;have u0:=ad.o.c0;have u9:=ad.o.lt;replace hs:=zh hs
 by_cases h60:s.ps.length<=60
 .have af:Hid (Am s=(FN s.ps&&(Dc s.ps.length s.cap&&Dc s.ps.length s.vot))):=by
   unfold Hid Am;rw[zH h60];simp
  have m0:decide (60<(s.ps.length:Int))=false:=zD (by omega);have kl:=zh (fun A c l W h1 h2 h3=>Oy A c s.ps.length l W h1 h2 h60 h3);go_enter func46,ntmps46;go_wp2;obtain⟨wa,ak⟩:∃x,x=w.alloc (.cells #[.slice Ap s.ps.length cp,.slice Ac s.cap.length cc,.slice Av s.vot.length cv] 25):=⟨_,rfl⟩;rw[<-ak]at ad ae ⊢;clear u0 u9 ak
  go_loopw [3] (fun ix wr=>∃k q:Nat,k<=s.ps.length/\ix=.int .i64 (k:Int)/\wr=wa.drewN q/\Hid (∀i (h:i<s.ps.length),i<k->C4 s.ps i h)) (fun ix _=>s.ps.length-(intOf ix).toNat)
  case atStart=>exact⟨0,0,zO _,rfl,rfl,fun i _ h=>absurd h (zi _)⟩
  case round=>
   obtain⟨k,q,hk,rfl,hw,hA⟩:=hrel;have hX:Bk wr w.heap.size 25 (SC s Ap Ac Av cp cc cv):=by rw[hw];exact ad.o
   have hB:Hid (Below w.heap.size w wr):=by rw[hw];exact Bn ae.o q
   have u0:=hX.c0;have u9:=hX.lt;replace hw:=zh hw
   by_cases aa:k<s.ps.length
   .obtain ⟨b,o,rfl,aw,hc⟩:=(hs.o.below hB.o).ps (by omega);have e1:=hc k aa;have e0:0<k->wr.cell? ⟨b,o+(k-1),none⟩=some (.string (s.ps[k-1]'(by omega))):=fun h=>hc (k-1) (by omega);have zx:=hs.o.zp s.ps[k] (zQ aa);have ar:=zh (aq.o k aa)
    have al:Hid (C4 s.ps k aa->∀i (h:i<s.ps.length),i<k+1->C4 s.ps i h):=fun h i hi h2=>by
     by_cases e:i=k
     .subst e;exact h
     exact hA.o i hi (by omega)
    obtain⟨pm,e0,ab⟩:∃pm,(0<k->wr.cell? ⟨b,o+(k-1),none⟩=some (.string pm))/\(C4 s.ps k aa<->A4 s.ps[k]=true/\(0<k->IP s.ps[k] pm=false)):=⟨s.ps[k-1]'(by omega),e0,wY⟩;obtain⟨nm,ah⟩:∃x,x=s.ps[k]:=⟨_,rfl⟩;rw[<-ah]at e1 zx ab;have i0:(0:Int)<=(k:Int):=by omega
    have i1:(k:Int)<(s.ps.length:Int):=by omega
    clear hc ah;obtain⟨r,hr⟩:∃r,r=(!A4 nm||(decide (0<k)&&IP nm pm)):=⟨_,rfl⟩
    go_upto_region 6 with(fail)
    refine Wa w.heap.size b o cp k s.ps.length Ac Av s.cap.length cc s.vot.length cv nm pm r hr wr aa ai hX aw zx e1 e0 ?_;intro ay az aA aB aC aD aE aF aG aH aI aJ aK aL aM aN aO aP aQ aR aS aT aU aV q9;have ax:Hid (wr.drewN q9=wa.drewN (q+q9)):=by unfold Hid;rw[hw.o,yr]
    have a:=zh (Bn hB.o q9)
    cases r with
    |true=>
     have hG:Hid (Am s=false):=by
      have:FN s.ps=false:=ar.o fun h=>by
       obtain⟨h1,h2⟩:=ab.1 h;rw[h1]at hr
       by_cases h0:0<k
       .rw[h2 h0]at hr;simp at hr
       rw[zD h0]at hr;simp at hr
      unfold Hid;rw[af.o,this];rfl
     clear hr ab hX e1 e0 u0;go_wp2;go_ret;exact⟨Ag hG.o.symm,a.o⟩
    |false=>
     have an:=zh (al.o (ab.2 (by
      cases h1:A4 nm with
      |false=>rw[h1]at hr;cases hr
      |true=>
       refine⟨rfl,fun h0=>?_⟩;rw[h1,zH h0]at hr
       simpa using hr.symm)))
     clear hr ab hX e1 e0 u0;go_wp2;exact⟨⟨k+1,q+q9,by omega,by go_num,ax.o,an⟩,by simp only[intOf];omega⟩
   obtain rfl:k=s.ps.length:=by omega
   have au:=zh (ao.o fun j h=>hA.o j h h);have u1:=hX.c1;have u2:=hX.c2;have av:=zh hX;have aj:=zh (hs.o.below hB.o);have k1:=zh (kl.o Ac cc s.cap wr aj.o.cap hs.o.nc hs.o.zc)
   cases d:Dc s.ps.length s.cap with
   |false=>
    have hG:Hid (Am s=false):=by unfold Hid;rw[af.o,d];simp
    rw[d]at k1;clear d hX
    go_wp2_with fail
    refine k1.o.q fun w2 hb=>?_;have a:=hB.t hb;clear hb;go_wp2;go_ret;exact⟨Ag hG.o.symm,a.o⟩
   |true=>
    have hG:Hid (Am s=Dc s.ps.length s.vot):=by unfold Hid;rw[af.o,d,au.o];simp
    rw[d]at k1;clear d hX
    go_wp2_with fail
    refine k1.o.q fun w2 hb=>?_;have a:=hB.t hb;have ag:=zh (av.o.below hb);have k2:=zh (kl.o Av cv s.vot w2 (aj.o.below hb).vot hs.o.nv hs.o.zv);clear hb u0 u1 u2 u9;have u0:=ag.o.c0;have u2:=ag.o.c2;have u9:=ag.o.lt
    go_wp2_with fail
    refine k2.o.q fun w3 hb=>?_;have am:=a.t hb;clear hb;go_wp2;go_ret;exact⟨Ag hG.o.symm,am.o⟩
 have hG:Hid (Am s=false):=by
  unfold Hid Am;rw[zD h60];simp
 have m0:decide (60<(s.ps.length:Int))=true:=zH (by omega);go_enter func46,ntmps46;go_wp2;go_ret;exact⟨Ag hG.o.symm,ae.o⟩
def KC(s:SR)(F:List Int)(w:World)(e:Ending)(w':World):Prop :=
 (if Am s=true/\Be s.ps.length F=true then ∃A c,e=.returned (.tuple #[.slice A s.ps.length c,.int .i64 0])/\InInt w' A ((List.range s.ps.length).map (rk (Ad s) (toN F)))
   else e=.returned (.tuple #[.slice none 0 0,.int .i64 1]))/\Below w.heap.size w w'
theorem JO{s:SR}(h:Am s=true){x:Lk}(hx:x∈s.cap):(0<=x.1/\x.1<s.ps.length)/\(0<=x.2.1/\x.2.1<s.ps.length):=by
 unfold Am at h;simp only[yI]at h;obtain⟨i,hi,rfl⟩:=zl hx;exact⟨(Dq h.2.2.1 hi).1.1,(Dq h.2.2.1 hi).1.2.1⟩
theorem KD{s:SR}(h:Am s=true):s.ps.length<=60:=by
 unfold Am at h;simp only[yI,yN]at h;exact h.2.1
theorem Ex(s:SR):(Ad s).length=s.cap.length:=by simp[Ad]
theorem Mm{s:SR}{i:Nat}(h:i<s.cap.length):(Ad s)[i]'(by rw[Ex];exact h)=(s.cap[i].2.1.toNat,s.cap[i].1.toNat):=by simp[Ad]
theorem RoI.of_own{w:World}{base n c:Nat}{A:Option Addr}{t:TypeId}{r:Int}(h:w.ownsRow base t 1 (.slice A n c) n (List.replicate n (.int .i64 r)))(hn:0<n):∃b,A=some ⟨b,0,none⟩/\base<=b/\RoI w b n fun _=>r:=by
 rcases h.2 with⟨_,h0⟩|⟨g,cap,cur,e,hb,hg,_,_,_,ht⟩
 .omega
 injection e with e1 _ _;subst e1;refine⟨g,rfl,hb,(Array.getElem?_eq_some_iff.1 hg).1,fun x hx=>?_,fun x=>by simp[World.frozen?,hg]⟩;have hc:=h.cells (g:=g) (by simp[Value.ownBlock]) x (.int .i64 r) (by simp[hx])
 rwa [Addr.add_lit,zm]at hc
theorem Lv.step_no{n r i:Nat}{E:List (Nat×Nat)}{F:List Nat}{o:Nat->Int}{a b:Nat}(h:Lv n E F r i o)(hi:i<E.length)(hE:InN n E)(he:E[i]=(a,b))(hn:¬(o a=r/\o b<0)):Lv n E F r (i+1) o:=h.skip hi hE (by rw[he];exact hn)
theorem Lv.step_yes{n r i:Nat}{E:List (Nat×Nat)}{F:List Nat}{o:Nat->Int}{a b:Nat}(h:Lv n E F r i o)(hi:i<E.length)(hE:InN n E)(he:E[i]=(a,b))(h1:o a=r)(h2:o b<0):Lv n E F r (i+1) (E0 o b ((r:Int)+1)):=by
 have:=h.set hi hE (by rw[he];exact h1) (by rw[he];exact h2)
 rwa [he]at this
theorem Oz(s:SR)(Ap Ac Av Af:Option Addr)(cp cc cv cf:Nat)(F:List Int)(w:World)(hs:StIn w s Ap Ac Av)(hF:InInt w Af F)(a0:F.length<=140737488355328):
 Calls prog 48 #[.agg #[.slice Ap s.ps.length cp,.slice Ac s.cap.length cc,.slice Av s.vot.length cv],.slice Af F.length cf] w (KC s F w):=by
 have ai:Hid (Bk (w.alloc (.cells #[.slice Ap s.ps.length cp,.slice Ac s.cap.length cc,.slice Av s.vot.length cv] 25)) w.heap.size 25 (SC s Ap Ac Av cp cc cv)):=Bk.new w _ _;have ad:Hid (Below w.heap.size w (w.alloc (.cells #[.slice Ap s.ps.length cp,.slice Ac s.cap.length cc,.slice Av s.vot.length cv] 25))):=(zI _ w).alloc (zB _) _;have ak:Hid (∀e w',(¬(Am s=true/\Be s.ps.length F=true))->e=.returned (.tuple #[.slice none 0 0,.int .i64 1])->Below w.heap.size w w'->KC s F w e w'):=fun e w' h1 h2 h3=>⟨by rw[zC h1];exact h2,h3⟩;have ks:=FW s Ap Ac Av cp cc cv (w.alloc (.cells #[.slice Ap s.ps.length cp,.slice Ac s.cap.length cc,.slice Av s.vot.length cv] 25)) (hs.below ad.o);have u0:=ai.o.c0;have u1:=ai.o.c1;have u2:=ai.o.c2;have u9:=ai.o.lt;replace hs:=zh hs;replace hF:=zh hF
 cases aa:Am s with
 |false=>
  rw[aa]at ks;replace ks:=zh ks;replace aa:=zh aa;go_enter func48,ntmps48
  go_wp2_with fail
  refine ks.o.q fun w2 hb=>?_;have ae:=ad.t hb;clear hb u0 u1 u2 u9;go_wp2;go_ret2;exact ak.o _ _ (fun h=>by rw[aa.o]at h;cases h.1) rfl ae.o
 |true=>
  have bd:=KD aa;have a6:Hid (∀x,x∈s.cap->(0<=x.1/\x.1<s.ps.length)/\(0<=x.2.1/\x.2.1<s.ps.length)):=fun x hx=>JO aa hx;have ao:=zh (ET aa);rw[aa]at ks;replace ks:=zh ks;go_enter func48,ntmps48
  go_wp2_with fail
  refine ks.o.q fun w2 hb=>?_;have ae:=ad.t hb;have am:=zh (ai.o.below hb);clear hb u0 u1 u2 u9 ks ai ad;have u0:=am.o.c0;have u1:=am.o.c1;have u9:=am.o.lt;have kl:=SX Af cf s.ps.length F w2 (hF.o.below ae.o) a0
  cases ab:Be s.ps.length F with
  |false=>
   rw[ab]at kl;replace kl:=zh kl;replace ab:=zh ab
   go_wp2_with fail
   refine kl.o.mono ?_;rintro e w3 ⟨rfl,q,rfl⟩;have af:=zh (Bn ae.o q);clear u0 u1 u9;go_wp2;go_ret2;exact ak.o _ _ (fun h=>by rw[ab.o]at h;cases h.2) rfl af.o
  |true=>
   have al:Hid (∀e w' A c,e=.returned (.tuple #[.slice A s.ps.length c,.int .i64 0])->InInt w' A ((List.range s.ps.length).map (rk (Ad s) (toN F)))->Below w.heap.size w w'->KC s F w e w'):=fun e w' A c h1 h2 h3=>⟨by rw[zE ⟨aa,ab⟩];exact⟨A,c,h1,h2⟩,h3⟩;rw[ab]at kl;replace kl:=zh kl;replace ab:=zh ab;replace aa:=zh aa;clear ak
   go_wp2_with fail
   refine kl.o.mono ?_;rintro e w3 ⟨rfl,q,rfl⟩;have af:=zh (Bn ae.o q);have an:Hid (Bk (w2.drewN q) w.heap.size 25 (SC s Ap Ac Av cp cc cv)):=am.o;obtain⟨w3,aF⟩:∃x,x=w2.drewN q:=⟨_,rfl⟩;rw[<-aF]at af an ⊢;obtain⟨i0,aD,aW⟩:=Option.map_eq_some_iff.1 FV;simp only[Prod.mk.injEq]at aW;obtain⟨aG,aH,aI⟩:=aW;replace aD:=zh aD;replace aG:=zh aG;replace aH:=zh aH;replace aI:=zh aI;clear aF kl ae am u0 u1 u9;go_wp2
   go_loopw [6,7] (fun u ix wr=>∃(k:Nat)(A:Option Addr)(c:Nat),k<=s.ps.length/\u=.slice A k c/\ix=.int .i64 (k:Int)/\Hid (Kp [] w3 wr)/\Hid (wr.ownsRow w3.heap.size 3 1 (.slice A k c) k (List.replicate k (.int .i64 (-1))))) (fun _ ix _=>s.ps.length-(intOf ix).toNat)
   case atStart=>exact⟨0,none,0,zO _,rfl,rfl,Kp.refl _ _,zq _ _ _ _⟩
   case round=>
    obtain⟨k,A,c,hk,rfl,rfl,hK,hO⟩:=hrel;have hX:=an.o.kp hK.o (by simp);have u0:=hX.c0;have u1:=hX.c1;have u9:=hX.lt
    by_cases hlt:k<s.ps.length
    .have a2:=zh (AK hO.o ((zI _ wr).alloc (zB _) (.cells #[.int .i64 (-1)] 3)));have ag:=zh (hK.o.alloc (.cells #[.int .i64 (-1)] 3));have a4:Hid (w3.heap.size<=(wr.alloc (.cells #[.int .i64 (-1)] 3)).heap.size):=ag.o.size;have had:Hid (∀j u,[(Value.int .i64 (-1))][j]? = some u->(wr.alloc (.cells #[.int .i64 (-1)] 3)).cell? (Addr.add ⟨wr.heap.size,0,none⟩ j)=some u):=BA wr _ _;have ba:Hid (List.replicate k (Value.int .i64 (-1))++[.int .i64 (-1)]=List.replicate (k+1) (.int .i64 (-1))):=by unfold Hid;rw[List.replicate_succ']
     have aU:Hid (∀b,(Value.slice A k c).ownBlock=some b->b∈[]\/w3.heap.size<=b):=fun b e=>.inr (hO.o.lt b e).1;clear hX hO
     go_wp2_with (at_builtin;refine wpList_append_new _ rfl _ _ 26 rfl w3.heap.size 3 i0 (.int .i64 0) 1 8 underlying26 aD.o aG.o aH.o aI.o rfl (by decide) (.slice A k c) k _ rfl a2.o ⟨wr.heap.size,0,none⟩ 1 1 [.int .i64 (-1)] rfl rfl had.o (AQ _ rfl) (by decide) (by unfold maxLen;omega) (by omega) a4.o ?_;intro bi bj aq aO a7;obtain⟨A9,c9,rfl⟩:=Cu aq;rw[ba.o]at aq;have a1:=zh (ag.o.grown aO aU.o);replace aq:=zh aq;clear aO a7)
     exact⟨⟨k+1,A9,c9,by omega,rfl,by go_num,a1,aq⟩,by simp only[intOf];omega⟩
    obtain rfl:k=s.ps.length:=by omega
    clear hX
    by_cases hn0:s.ps.length=0
    .have az:F=[]:=by
      cases F with
      |nil=>rfl
      |cons a l=>
       have h:=(DH ab.o (k:=0) (by simp)).1;rw[hn0]at h;omega
     have aX:Hid (Below w.heap.size w wr):=hK.o.to_below af.o fun x hx=>by simp at hx
     have aZ:Hid (∀A,InInt wr A ((List.range s.ps.length).map (rk (Ad s) (toN F)))):=fun A h=>absurd h (by simp[hn0]);have m1:decide ((0:Int)<(s.ps.length:Int))=false:=zD (by omega);have m2:F.length=0:=by rw[az];rfl
     have m4:decide (0<s.ps.length)=false:=zD (by omega);replace az:=zh az;replace hn0:=zh hn0;go_wp2
     go_loop [8] (fun i=>i=.int .i64 0) (fun _=>0)
     case atStart=>rfl
     case round=>
      obtain rfl:=hrel;have m3:decide ((0:Int)<(F.length:Int))=false:=zD (by omega);go_wp2
      go_loop [9] (fun i=>i=.int .i64 0) (fun _=>0)
      case atStart=>rfl
      case round=>
       obtain rfl:=hrel;go_wp2;go_ret2;exact al.o _ _ A c rfl (aZ.o A) aX.o
    obtain⟨b0,rfl,be,aA⟩:=RoI.of_own hO.o (by omega);have aF:w.heap.size<w3.heap.size:=an.o.lt;have bc:=aA.lt;have ay:Hid (Below w.heap.size w wr):=hK.o.to_below af.o fun x hx=>by simp at hx
    have au:=zh (an.o.kp hK.o (by simp));have aK:Hid (RoI wr b0 s.ps.length (ini (toN F) 0)):=aA.congr fun x _=>by unfold ini;rw[xj,zC (by simp)]
    clear u0 u1 u9 hO aA an af hK;obtain⟨w4,bb⟩:∃x,x=wr:=⟨_,rfl⟩;subst bb;have aC:Hid (∀x,x∈[b0]->w.heap.size<=x):=fun x hx=>by rw[List.mem_singleton.1 hx];omega
    have aV:Hid (w.heap.size∉[b0]):=by unfold Hid;simp;omega
    have u0:=au.o.c0;have u9:=au.o.lt;go_wp2;clear u0 u9
    go_loopw [8] (fun ix wr=>∃(k:Nat)(o:Nat->Int),k<=F.length/\ix=.int .i64 (k:Int)/\Hid (Kp [b0] w4 wr)/\Hid (RoI wr b0 s.ps.length o)/\Hid (∀x,o x=ini (toN F) k x)) (fun ix _=>F.length-(intOf ix).toNat)
    case atStart=>exact⟨0,_,zO _,rfl,Kp.refl _ _,aK,fun _=>rfl⟩
    case round=>
     obtain⟨k,o,hk,rfl,hK,hR,ho⟩:=hrel;clear aK;have ax:Hid (Below w.heap.size w wr):=hK.o.to_below ay.o aC.o
     by_cases hlt:k<F.length
     .obtain ⟨p,aR,bh,aS⟩:=NE ab.o hlt;obtain⟨b1,o1,rfl,bf,aL⟩:=(hF.o.below ax.o) (by omega);have e1:=aL k hlt;rw[aR]at e1;have aT:p<s.ps.length:=by omega
      have e2:=hR.o.cell p aT;have e3:=hR.o.fr p;have aB:=zh (hR.o.set aT 0);have ag:=zh (hK.o.set (a:=⟨b0,p,none⟩) (.int .i64 0) (.inl (List.mem_singleton.2 rfl)))
      have a9:Hid (∀x,E0 o p 0 x=ini (toN F) (k+1) x):=fun x=>by
       rw[<-LB aS x];unfold E0;rw[ho.o x]
      have j0:(0:Int)<=(k:Int):=by omega
      have j1:(k:Int)<(F.length:Int):=by omega
      have j2:(0:Int)<=(p:Int):=by omega
      clear aL aR aS;go_wp2;exact⟨⟨k+1,_,by omega,by go_num,ag,aB,a9⟩,by simp only[intOf];omega⟩
     obtain rfl:k=F.length:=by omega
     have aQ:∀x,o x=if x∈toN F then 0 else -1:=fun x=>by
      rw[ho.o x,<-OY];have:(toN F).length=F.length:=by simp[toN]
      rw[this]
     have d:Hid (Lv s.ps.length (Ad s) (toN F) 0 0 o):=Lv.start fun x _=>aQ x;clear ho aQ;go_wp2
     go_loopw [9] (fun ix wr=>∃(r:Nat)(o:Nat->Int),r<=s.ps.length/\ix=.int .i64 (r:Int)/\Hid (Kp [b0] w4 wr)/\Hid (RoI wr b0 s.ps.length o)/\Hid (Lv s.ps.length (Ad s) (toN F) r 0 o)) (fun ix _=>s.ps.length-(intOf ix).toNat)
     case atStart=>exact⟨0,_,zO _,rfl,hK,hR,d⟩
     case round=>
      clear hK hR d;obtain⟨r,o,hr,rfl,hK,hR,d⟩:=hrel;have hX:=au.o.kp hK.o aV.o;have u0:=hX.c0;have u9:=hX.lt;clear hX
      by_cases hrn:r<s.ps.length
      .go_wp2
       go_loopw [10] (fun ix wr=>∃(i:Nat)(o:Nat->Int),i<=s.cap.length/\ix=.int .i64 (i:Int)/\Hid (Kp [b0] w4 wr)/\Hid (RoI wr b0 s.ps.length o)/\Hid (Lv s.ps.length (Ad s) (toN F) r i o)) (fun ix _=>s.cap.length-(intOf ix).toNat)
       case atStart=>exact⟨0,o,zO _,rfl,hK,hR,d⟩
       case round=>
        clear hK hR d u0 u9;obtain⟨i,o,hi,rfl,hK,hR,d⟩:=hrel;have hX:=au.o.kp hK.o aV.o;have u1:=hX.c1;have u9:=hX.lt;have ax:Hid (Below w.heap.size w wr):=hK.o.to_below ay.o aC.o;clear hX
        by_cases hil:i<s.cap.length
        .obtain ⟨b,of,rfl,bg,aM⟩:=(hs.o.below ax.o).cap (by omega);obtain⟨e1,e2,e3,e4,e5⟩:=aM i hil;have aP:=a6.o s.cap[i] (zQ hil);have aE:i<(Ad s).length:=by rw[Ex];exact hil
         have aj:=Mm hil;obtain⟨x,hx⟩:∃x,x=s.cap[i]:=⟨_,rfl⟩;rw[<-hx]at e1 e2 e3 e4 e5 aP aj;obtain⟨coI,av,g,nn,dd⟩:=x;obtain⟨⟨i1,i2⟩,i3,i4⟩:=aP;replace i1:0<=coI:=i1;replace i2:coI<s.ps.length:=i2;replace i3:0<=av:=i3;replace i4:av<s.ps.length:=i4;obtain⟨co,rfl⟩:∃c:Nat,coI=(c:Int):=⟨coI.toNat,by omega⟩;obtain⟨ho,rfl⟩:∃c:Nat,av=(c:Int):=⟨av.toNat,by omega⟩;replace aj:(Ad s)[i]=(ho,co):=by simpa using aj
         replace e1:wr.cell? ⟨b,of+i*5,none⟩=some (.int .i64 (co:Int)):=e1;replace e2:wr.cell? ⟨b,of+i*5+1,none⟩=some (.int .i64 (ho:Int)):=e2;replace e3:wr.cell? ⟨b,of+i*5+2,none⟩=some (.bool g):=e3;replace e4:wr.cell? ⟨b,of+i*5+3,none⟩=some (.string nn):=e4;replace e5:wr.cell? ⟨b,of+i*5+4,none⟩=some (.string dd):=e5;have j0:(0:Int)<=(i:Int):=by omega
         have j1:(i:Int)<(s.cap.length:Int):=by omega
         have a5:ho<s.ps.length:=by omega
         have aN:co<s.ps.length:=by omega
         have ah:=zh (hR.o.alloc (.cells #[.int .i64 (co:Int),.int .i64 (ho:Int),.bool g,.string nn,.string dd] 55));have aJ:=zh (hK.o.alloc (.cells #[.int .i64 (co:Int),.int .i64 (ho:Int),.bool g,.string nn,.string dd] 55));have f1:=ah.o.cell ho a5;have f2:=ah.o.cell co aN;have f3:=ah.o.fr co;have f4:=ah.o.lt;have f5:=hR.o.lt;have f6:b0≠wr.heap.size:=by omega
         have a8:=hs.o.nc;have aw:=zh (fun h1 h2=>d.o.step_yes aE ao.o aj h1 h2);have ar:=zh (fun h=>d.o.step_no aE ao.o aj h);clear aM hx aj d aE
         by_cases hq:o ho=r
         .have m1:((o ho)==(r:Int))=true:=by rw[yL];exact hq
          by_cases hq2:o co<0
          .have m2:decide (o co<0)=true:=zH hq2;have hL2:=zh (aw.o hq hq2);have aB:=zh ((hR.o.set aN ((r:Int)+1)).alloc (.cells #[.int .i64 (co:Int),.int .i64 (ho:Int),.bool g,.string nn,.string dd] 55));have ag:=zh ((hK.o.set (a:=⟨b0,co,none⟩) (.int .i64 ((r:Int)+1)) (.inl (List.mem_singleton.2 rfl))).alloc (.cells #[.int .i64 (co:Int),.int .i64 (ho:Int),.bool g,.string nn,.string dd] 55));replace hq:=zh hq;clear aw ar hq2;go_wp2;exact⟨⟨i+1,_,by omega,by go_num,ag,aB,hL2⟩,by simp only[intOf];omega⟩
          have m2:decide (o co<0)=false:=zD hq2;have hL2:=zh (ar.o fun c=>hq2 c.2);replace hq:=zh hq;clear aw ar hq2;go_wp2;exact⟨⟨i+1,_,by omega,by go_num,aJ,ah,hL2⟩,by simp only[intOf];omega⟩
         have m1:((o ho)==(r:Int))=false:=by rw[zJ];exact hq
         have hL2:=zh (ar.o fun c=>hq c.1);replace hq:=zh hq;clear aw ar;go_wp2;exact⟨⟨i+1,_,by omega,by go_num,aJ,ah,hL2⟩,by simp only[intOf];omega⟩
        obtain rfl:i=s.cap.length:=by omega
        have a8:=hs.o.nc
        have hL2:Hid (Lv s.ps.length (Ad s) (toN F) (r+1) 0 o):=by
         have h:=d.o;rw[<-Ex]at h;exact h.next
        clear d;go_wp2;exact⟨⟨r+1,o,by omega,by go_num,hK,hR,hL2⟩,by simp only[intOf];omega⟩
      obtain rfl:r=s.ps.length:=by omega
      have a3:Hid (RoI wr b0 s.ps.length (rk (Ad s) (toN F))):=hR.o.congr fun x hx=>d.o.whole (zB _) ao.o hx;have aY:Hid (Below w.heap.size w wr):=hK.o.to_below ay.o aC.o;clear d;go_wp2;go_ret2;exact al.o _ _ _ c rfl a3.o.inInt aY.o
structure BM(w:World)(B g k n:Nat)(bl:Nat->Nat)(T:Nat->Nat->Prop):Prop where
 lt:g<w.heap.size
 hd:∀i,i<k->w.cell? ⟨g,i,none⟩=some (.slice (some ⟨bl i,0,none⟩) n n)
 rl:∀i,i<k->bl i<w.heap.size
 cell:∀i j,i<k->j<n->w.cell? ⟨bl i,j,none⟩=some (.bool (bV (T i j)))
 fr:∀i j,i<k->w.frozen? ⟨bl i,j,none⟩=false
 inj:∀i j,i<k->j<k->bl i=bl j->i=j
 ne:∀i,i<k->bl i≠g
 lowG:B<=g
 low:∀i,i<k->B<=bl i
section
variable {w w':World} {B g k n:Nat} {bl:Nat->Nat} {T T':Nat->Nat->Prop}
theorem BM.of_block(h:BM w B g k n bl T)(hs:w.heap.size<=w'.heap.size)(hg:w'.heap[g]? = w.heap[g]?)(hr:∀i,i<k->w'.heap[bl i]? = w.heap[bl i]?):BM w' B g k n bl T :=
 ⟨zL h.lt hs,fun i hi=>(zR (a:=⟨g,i,none⟩) hg).trans (h.hd i hi),fun i hi=>zL (h.rl i hi) hs,fun i j hi hj=>(zR (a:=⟨bl i,j,none⟩) (hr i hi)).trans (h.cell i j hi hj),fun i j hi=>(zu (a:=⟨bl i,j,none⟩) (hr i hi)).trans (h.fr i j hi),h.inj,h.ne,h.lowG,h.low⟩
theorem BM.below(h:BM w B g k n bl T)(hb:Below w.heap.size w w'):BM w' B g k n bl T:=h.of_block hb.size (hb.block g h.lt) fun i hi=>hb.block (bl i) (h.rl i hi)
theorem BM.alloc(h:BM w B g k n bl T)(o:Obj):BM (w.alloc o) B g k n bl T:=h.below ((zI _ w).alloc (zB _) o)
theorem BM.congr(h:BM w B g k n bl T)(e:∀i j,i<k->j<n->(T i j<->T' i j)):BM w B g k n bl T' :=
 ⟨h.lt,h.hd,h.rl,fun i j hi hj=>by rw[h.cell i j hi hj];by_cases c:T i j;(· rw[A7 c,A7 ((e i j hi hj).1 c)]);(· rw[At c,At fun d=>c ((e i j hi hj).2 d)]),h.fr,h.inj,h.ne,h.lowG,h.low⟩
theorem BM.set(h:BM w B g k n bl T){i j:Nat}(hi:i<k)(hj:j<n)(hT:∀a b,T' a b<->T a b\/(a=i/\b=j)):BM (w.setCell ⟨bl i,j,none⟩ (.bool true)) B g k n bl T':=by
 refine⟨by simpa using h.lt,fun a ha=>?_,fun a ha=>by simpa using h.rl a ha,fun a b ha hb=>?_,fun a b ha=>by simpa using h.fr a b ha,h.inj,h.ne,h.lowG,h.low⟩
 .rw[zZ _ _ _ _ (fun c=>by injection c with c1 _;first|exact h.ne i hi c1|exact h.ne i hi c1.symm)];exact h.hd a ha
 by_cases e:a=i/\b=j
 .obtain⟨rfl,rfl⟩:=e;rw[zr _ _ _ (h.cell a b ha hb),A7 ((hT a b).2 (.inr ⟨rfl,rfl⟩))]
 rw[zZ _ _ _ _ (fun c=>by injection c with c1 c2;first|exact e ⟨h.inj a i ha hi c1,c2⟩|exact e ⟨h.inj a i ha hi c1.symm,c2.symm⟩),h.cell a b ha hb]
 by_cases c:T a b
 .rw[A7 c,A7 ((hT a b).2 (.inl c))]
 rw[At c,At fun d=>((hT a b).1 d).elim c e]
end
end Ci
end
section
open Go.RowKit Go.Shelf
namespace Ci
open Nt
noncomputable def reR(j:Nat):Code:=((Tryz.f99.body.map Bt).bind fun l=>l.find? (T7 j)).getD .skip
theorem UI{c0 c2 c3 c5 c6 c8 c9 a d s aa ab ad ae af ag ah ai aj ak al am an ao aq ar au av aw ax ay az aA aB aC aD aE aF aG aH aI aJ aK aL aM aN aO aP aQ aR aS aT aU aV aW aX aY aZ a0 a1 a2 a3 a4 a5 a6 a7 a8 a9 ba bb bc bd be bf bg bh bi bj bk bm bn bo bp bq br bs:Value}{Q:Exit->Act->World->Prop}(xb b of cc len i g co ho rb n gc:Nat)(w:World)(hi:i<len)(bt:co<n)(bu:ho<n)(h1:w.cell? ⟨xb,1,none⟩=some (.slice (some ⟨b,of,none⟩) len cc))(h2:w.cell? ⟨b,of+i*5,none⟩=some (.int .i64 (co:Int)))(h3:w.cell? ⟨b,of+i*5+1,none⟩=some (.int .i64 (ho:Int)))(h4:w.cell? ⟨g,ho,none⟩=some (.slice (some ⟨rb,0,none⟩) n n))(h5:∃u,w.cell? ⟨rb,co,none⟩=some u)(h6:w.frozen? ⟨rb,co,none⟩=false)
 (h:∀(u35 u36 u37 u38 u39 u40 u41 u42 u43 u44 u45 u46 u47 u48 u49 u50:Value),Q .normal ⟨#[c0,.pointer (some ⟨xb,0,none⟩),c2,c3,.slice (some ⟨g,0,none⟩) n gc,c5,c6,.int .i64 (i:Int),c8,c9,a,d,s,aa,ab,ad,ae,af,ag,ah,ai,aj,ak,al,am,an,ao,aq,ar,au,av,aw,ax,ay,az,u35,u36,u37,u38,u39,u40,u41,u42,u43,u44,u45,u46,u47,u48,u49,u50,aA,aB,aC,aD,aE,aF,aG,aH,aI,aJ,aK,aL,aM,aN,aO,aP,aQ,aR,aS,aT,aU,aV,aW,aX,aY,aZ,a0,a1,a2,a3,a4,a5,a6,a7,a8,a9,ba,bb],[]⟩ ((w.setCell ⟨rb,co,none⟩ (.bool true)).drew)):
 Code.wp prog (reR 12) Q ⟨#[c0,.pointer (some ⟨xb,0,none⟩),c2,c3,.slice (some ⟨g,0,none⟩) n gc,c5,c6,.int .i64 (i:Int),c8,c9,a,d,s,aa,ab,ad,ae,af,ag,ah,ai,aj,ak,al,am,an,ao,aq,ar,au,av,aw,ax,ay,az,bc,bd,be,bf,bg,bh,bi,bj,bk,bm,bn,bo,bp,bq,br,bs,aA,aB,aC,aD,aE,aF,aG,aH,aI,aJ,aK,aL,aM,aN,aO,aP,aQ,aR,aS,aT,aU,aV,aW,aX,aY,aZ,a0,a1,a2,a3,a4,a5,a6,a7,a8,a9,ba,bb],[]⟩ w:=by
 conv=>arg 2;whnf
 conv=>arg 4;zeta
 replace h:=zh h;have j0:(0:Int)<=(i:Int):=by omega
 have j1:(i:Int)<(len:Int):=by omega
 have j2:(0:Int)<=(co:Int):=by omega
 have j3:(co:Int)<(n:Int):=by omega
 have j4:(0:Int)<=(ho:Int):=by omega
 have j5:(ho:Int)<(n:Int):=by omega
 obtain⟨u5,h5⟩:=h5;refine yS ?_
 go_wp2_with fail
 go_region_with (fail)
 all_goals (
  refine yF ?_;exact h.o ..)
def O0(E:List (Nat×Nat))(i a b:Nat):Prop:=a=b\/(a,b)∈E.take i
theorem QP{E:List (Nat×Nat)}{i ho co:Nat}(h:i<E.length)(he:E[i]=(ho,co))(a b:Nat):O0 E (i+1) a b<->O0 E i a b\/(a=ho/\b=co):=by
 unfold O0;rw[zS h,yz,xK,he,Prod.mk.injEq];constructor
 .rintro(c|c|c)
  .exact .inl (.inl c)
  .exact .inl (.inr c)
  exact .inr c
 rintro((c|c)|c)
 .exact .inl c
 .exact .inr (.inl c)
 exact .inr (.inr c)
theorem LN:(prog.info? 4).map (fun i=>(i.zero,i.size,i.bytes))=some (some (.bool false),1,1):=by kernel_rfl
theorem Wb:(prog.info? 119).map (fun i=>(i.zero,i.size,i.bytes))=some (some (.slice none 0 0),1,24):=by kernel_rfl
theorem F5(w:World)(n x:Nat)(t:TypeId)(hx:x<n):(w.alloc (.cells (madeCells #[.bool false] n) t)).cell? ⟨w.heap.size,x,none⟩=some (.bool false):=by
 have h:=zo w (.cells (madeCells #[(.bool false:Value)] n) t);simp only[World.cell?,h];simp[madeCells,hx];rw[xW];rfl
structure BRows(w:World)(B k n:Nat)(bl:Nat->Nat):Prop where
 rl:∀i,i<k->bl i<w.heap.size
 cell:∀i j,i<k->j<n->w.cell? ⟨bl i,j,none⟩=some (.bool (bV (i=j)))
 fr:∀i j,i<k->w.frozen? ⟨bl i,j,none⟩=false
 inj:∀i j,i<k->j<k->bl i=bl j->i=j
 low:∀i,i<k->B<=bl i
theorem BRows.of_block{w w':World}{B k n:Nat}{bl:Nat->Nat}(h:BRows w B k n bl)(hs:w.heap.size<=w'.heap.size)(hr:∀i,i<k->w'.heap[bl i]? = w.heap[bl i]?):BRows w' B k n bl :=
 ⟨fun i hi=>zL (h.rl i hi) hs,fun i j hi hj=>(zR (a:=⟨bl i,j,none⟩) (hr i hi)).trans (h.cell i j hi hj),fun i j hi=>(zu (a:=⟨bl i,j,none⟩) (hr i hi)).trans (h.fr i j hi),h.inj,h.low⟩
theorem BRows.step{w:World}{B k n:Nat}{bl:Nat->Nat}(h:BRows w B k n bl)(hB:B<=w.heap.size)(hk:k<n)(t:TypeId):BRows ((w.alloc (.cells (madeCells #[.bool false] n) t)).setCell ⟨w.heap.size,k,none⟩ (.bool true)) B (k+1) n (fun i=>if i=k then w.heap.size else bl i):=by
 have hn:=zo w (.cells (madeCells #[(.bool false:Value)] n) t);have IW:∀i,i<k->bl i≠w.heap.size:=fun i hi e=>by have:=h.rl i hi;omega
 refine⟨fun i hi=>?_,fun i j hi hj=>?_,fun i j hi=>?_,fun i j hi hj e=>?_,fun i hi=>?_⟩
 .by_cases c:i=k
  .rw[zE c];simp
  rw[zC c];have:=h.rl i (by omega);simp;omega
 .by_cases c:i=k
  .subst c;rw[zE rfl]
   by_cases c2:i=j
   .subst c2;rw[zr _ _ _ (F5 w n i t hj),A7 rfl]
   rw[zZ _ _ _ _ (fun e=>by injection e with _ e2;first|exact c2 e2|exact c2 e2.symm),F5 w n j t hj,At c2]
  rw[zC c,zZ _ _ _ _ (fun e=>by injection e with e1 _;first|exact IW i (by omega) e1|exact IW i (by omega) e1.symm)];exact(zk w _ (⟨bl i,j,none⟩:Addr) (h.rl i (by omega))).trans (h.cell i j (by omega) hj)
 .rw[World.frozen?_setCell]
  by_cases c:i=k
  .rw[zE c];simp only[World.frozen?,hn];simp
  rw[zC c];exact(zu (a:=⟨bl i,j,none⟩) (wv w _ (h.rl i (by omega)))).trans (h.fr i j (by omega))
 .by_cases c1:i=k
  .by_cases c2:j=k
   .rw[c1,c2]
   simp only[zE c1,zC c2]at e;exact absurd e.symm (IW j (by omega))
  by_cases c2:j=k
  .simp only[zE c2,zC c1]at e;exact absurd e (IW i (by omega))
  simp only[zC c1,zC c2]at e;exact h.inj i j (by omega) (by omega) e
 by_cases c:i=k
 .rw[zE c];exact hB
 rw[zC c];exact h.low i (by omega)
def Wc(s:SR)(w:World)(e:Ending)(w':World):Prop:=(∃A c,e=.returned (.slice A s.ps.length c)/\(0<s.ps.length->∃g bl,A=some ⟨g,0,none⟩/\BM w' w.heap.size g s.ps.length s.ps.length bl (Reach (Ad s))))/\Below w.heap.size w w'
def hdr(n:Nat)(bl:Nat->Nat)(i:Nat):Value:=.slice (some ⟨bl i,0,none⟩) n n
theorem QQ(s:SR)(Ap Ac Av:Option Addr)(cp cc cv:Nat)(w:World)(hs:StIn w s Ap Ac Av)(ak:Am s=true):
 Calls prog 99 #[.agg #[.slice Ap s.ps.length cp,.slice Ac s.cap.length cc,.slice Av s.vot.length cv]] w (Wc s w):=by
 have a2:=KD ak;have aK:Hid (∀x,x∈s.cap->(0<=x.1/\x.1<s.ps.length)/\(0<=x.2.1/\x.2.1<s.ps.length)):=fun x hx=>JO ak hx;have aL:=zh (ET ak);have aZ:=xG (P:=prog) 119 4 (.bool false) 1 underlying119 LN rfl .i64 .i64 s.ps.length (by omega) (by omega);have ah:Hid (Bk (w.alloc (.cells #[.slice Ap s.ps.length cp,.slice Ac s.cap.length cc,.slice Av s.vot.length cv] 25)) w.heap.size 25 (SC s Ap Ac Av cp cc cv)):=Bk.new w _ _;have al:Hid (Below w.heap.size w (w.alloc (.cells #[.slice Ap s.ps.length cp,.slice Ac s.cap.length cc,.slice Av s.vot.length cv] 25))):=(zI _ w).alloc (zB _) _;have u0:=ah.o.c0;have u9:=ah.o.lt;replace hs:=zh hs;replace ak:=zh ak;obtain⟨i0,aA,aS⟩:=Option.map_eq_some_iff.1 Wb;simp only[Prod.mk.injEq]at aS;obtain⟨aC,aD,aE⟩:=aS;replace aA:=zh aA;replace aC:=zh aC;replace aD:=zh aD;replace aE:=zh aE;go_enter func99,ntmps99;go_wp2;obtain⟨w1,aR⟩:∃x,x=w.alloc (.cells #[.slice Ap s.ps.length cp,.slice Ac s.cap.length cc,.slice Av s.vot.length cv] 25):=⟨_,rfl⟩;rw[<-aR]at ah al u9 ⊢;clear u0 aR
 go_loopw [4,5] (fun u ix wr=>∃(k:Nat)(A:Option Addr)(c:Nat)(bl:Nat->Nat),k<=s.ps.length/\u=.slice A k c/\ix=.int .i64 (k:Int)/\Hid (Kp [] w1 wr)/\Hid (BRows wr w1.heap.size k s.ps.length bl)/\Hid (wr.ownsRow w1.heap.size 119 1 (.slice A k c) k ((List.range k).map (hdr s.ps.length bl)))/\Hid (∀b,(Value.slice A k c).ownBlock=some b->∀i,i<k->bl i≠b)) (fun _ ix _=>s.ps.length-(intOf ix).toNat)
 case atStart=>exact⟨0,none,0,fun _=>0,zO _,rfl,rfl,Kp.refl _ _,⟨fun i h=>absurd h (zi _),fun i _ h=>absurd h (zi _),fun i _ h=>absurd h (zi _),fun i _ h=>absurd h (zi _),fun i h=>absurd h (zi _)⟩,zq _ _ _ _,fun b e=>by cases e⟩
 case round=>
  obtain⟨k,A,c,bl,hk,rfl,rfl,hK,hR,hO,aj⟩:=hrel
  by_cases hlt:k<s.ps.length
  .have ax:w1.heap.size<=wr.heap.size:=hK.o.size;have ag:=hR.o.step ax hlt 4;have c1:=F5 wr s.ps.length k 4 hlt
   have c2:(wr.alloc (.cells (madeCells #[.bool false] s.ps.length) 4)).frozen? ⟨wr.heap.size,k,none⟩=false:=by
    have h:=zo wr (.cells (madeCells #[(.bool false:Value)] s.ps.length) 4);simp only[World.frozen?,h];simp
   have au:=((Kp.refl [wr.heap.size] wr).alloc (.cells (madeCells #[.bool false] s.ps.length) 4)).set (a:=⟨wr.heap.size,k,none⟩) (.bool true) (.inr (zB _));have av:=((hK.o.alloc (.cells (madeCells #[.bool false] s.ps.length) 4)).set (a:=⟨wr.heap.size,k,none⟩) (.bool true) (.inr ax));have IW:∀b,(Value.slice A k c).ownBlock=some b->w1.heap.size<=b/\b<wr.heap.size:=fun b e=>hO.o.lt b e;rw[World.setCell_alloc_new]at ag au av;have aW:=zh (Iv hO.o (au.alloc (.cells #[.slice (some ⟨wr.heap.size,0,none⟩) s.ps.length s.ps.length] 119)) fun b e=>by have:=(IW b e).2;simp;omega);have aU:=zh (av.alloc (.cells #[.slice (some ⟨wr.heap.size,0,none⟩) s.ps.length s.ps.length] 119));have aw:=ag.of_block (w':=(wr.alloc (.cells ((madeCells #[.bool false] s.ps.length).setIfInBounds k (.bool true)) 4)).alloc (.cells #[.slice (some ⟨wr.heap.size,0,none⟩) s.ps.length s.ps.length] 119)) (by simp) fun i hi=>wv _ _ (ag.rl i hi);have ao:((wr.alloc (.cells ((madeCells #[.bool false] s.ps.length).setIfInBounds k (.bool true)) 4)).alloc (.cells #[.slice (some ⟨wr.heap.size,0,none⟩) s.ps.length s.ps.length] 119)).heap.size=wr.heap.size+2:=by simp
   have aX:Hid (w1.heap.size<=((wr.alloc (.cells ((madeCells #[.bool false] s.ps.length).setIfInBounds k (.bool true)) 4)).alloc (.cells #[.slice (some ⟨wr.heap.size,0,none⟩) s.ps.length s.ps.length] 119)).heap.size):=by unfold Hid;rw[ao];omega
   have had:Hid (∀j u,[(Value.slice (some ⟨wr.heap.size,0,none⟩) s.ps.length s.ps.length)][j]? = some u->((wr.alloc (.cells ((madeCells #[.bool false] s.ps.length).setIfInBounds k (.bool true)) 4)).alloc (.cells #[.slice (some ⟨wr.heap.size,0,none⟩) s.ps.length s.ps.length] 119)).cell? (Addr.add ⟨wr.heap.size+1,0,none⟩ j)=some u):=by
    have h:=BA (wr.alloc (.cells ((madeCells #[.bool false] s.ps.length).setIfInBounds k (.bool true)) 4)) (.slice (some ⟨wr.heap.size,0,none⟩) s.ps.length s.ps.length) 119
    rwa [zT]at h
   have aJ:Hid (∀vb wb,wb.ownsRow w1.heap.size 119 1 vb (k+1) ((List.range k).map (hdr s.ps.length bl)++[.slice (some ⟨wr.heap.size,0,none⟩) s.ps.length s.ps.length])->((wr.alloc (.cells ((madeCells #[.bool false] s.ps.length).setIfInBounds k (.bool true)) 4)).alloc (.cells #[.slice (some ⟨wr.heap.size,0,none⟩) s.ps.length s.ps.length] 119)).grownBy wb (Value.slice A k c).ownBlock->(vb.ownBlock=(Value.slice A k c).ownBlock\/vb.ownBlock=some (wr.heap.size+2)) ->
    BRows wb w1.heap.size (k+1) s.ps.length (fun i=>if i=k then wr.heap.size else bl i)/\wb.ownsRow w1.heap.size 119 1 vb (k+1) ((List.range (k+1)).map (hdr s.ps.length fun i=>if i=k then wr.heap.size else bl i))/\∀b,vb.ownBlock=some b->∀i,i<k+1->(if i=k then wr.heap.size else bl i)≠b):=fun vb wb ho hg ae=>by
    have aN:∀i,i<k+1->∀b,(Value.slice A k c).ownBlock=some b->(if i=k then wr.heap.size else bl i)≠b:=fun i hi b e=>by
     by_cases c2:i=k
     .rw[zE c2];have:=(IW b e).2;omega
     rw[zC c2];exact aj.o b e i (by omega)
    refine⟨aw.of_block hg.size fun i hi=>hg.block _ (aw.rl i hi) fun e=>aN i hi _ e.symm rfl,?_,fun b e i hi=>?_⟩
    .have e1:(List.range (k+1)).map (hdr s.ps.length fun i=>if i=k then wr.heap.size else bl i)=(List.range k).map (hdr s.ps.length bl)++[.slice (some ⟨wr.heap.size,0,none⟩) s.ps.length s.ps.length]:=by
      rw[xX,yf]
      congr 1
      .refine yX fun i hi=>?_;have:=List.mem_range.1 hi;unfold hdr;simp only;rw[zC (by omega)]
      simp[hdr]
     rw[e1];exact ho
    rcases ae with ae|ae
    .exact aN i hi b (by rw[<-ae,e])
    rw[e]at ae;simp only[Option.some.injEq]at ae;have h1:=ag.rl i hi;simp only[zT]at h1;omega
   have aP:Hid (∀b,(Value.slice A k c).ownBlock=some b->b∈[]\/w1.heap.size<=b):=fun b e=>.inr (IW b e).1;replace ao:=zh ao;clear hR hO aj au av ag aw IW ax
   go_wp2_with (at_builtin;refine wpList_append_new _ rfl _ _ 117 rfl w1.heap.size 119 i0 (.slice none 0 0) 1 24 underlying117 aA.o aC.o aD.o aE.o rfl (by decide) (.slice A k c) k _ rfl aW.o ⟨wr.heap.size+1,0,none⟩ 1 1 [.slice (some ⟨wr.heap.size,0,none⟩) s.ps.length s.ps.length] rfl rfl had.o (AQ _ rfl) (by decide) (by unfold maxLen;omega) (by omega) aX.o ?_;intro a0 a1 aO az aB;rw[ao.o]at aB;obtain⟨q1,q2,q3⟩:=aJ.o a0 a1 aO az aB;have aV:=zh (aU.o.grown az aP.o);obtain⟨A9,c9,rfl⟩:=Cu q2;replace q1:=zh q1;replace q2:=zh q2;replace q3:=zh q3;clear aO az aB)
   exact⟨⟨k+1,A9,c9,_,by omega,rfl,by go_num,aV,q1,q2,q3⟩,by simp only[intOf];omega⟩
  obtain rfl:k=s.ps.length:=by omega
  have aa:Hid (Below w1.heap.size w1 wr):=hK.o.to_below (zI _ w1) fun x hx=>by simp at hx
  have a5:w.heap.size<w1.heap.size:=u9
  by_cases hn0:s.ps.length=0
  .have am:s.cap=[]:=by
    cases aH:s.cap with
    |nil=>rfl
    |cons a l=>
     have h:=(aK.o a (by rw[aH];simp)).1;rw[hn0]at h;omega
   have ar:Hid (Below w.heap.size w wr):=al.o.trans (aa.o.mono (by omega));have hX:=ah.o.below aa.o;have x1:=hX.c1;have x8:=hX.lt;have m1:decide ((0:Int)<(s.cap.length:Int))=false:=by rw[am];rfl
   have m2:decide ((0:Int)<(s.ps.length:Int))=false:=zD (by omega);have m3:decide (0<s.cap.length)=false:=by rw[am];rfl
   have m4:decide (0<s.ps.length)=false:=zD (by omega);have aQ:Hid (∀A':Option Addr,0<s.ps.length->∃g bl',A'=some ⟨g,0,none⟩/\BM wr w.heap.size g s.ps.length s.ps.length bl' (Reach (Ad s))):=fun _ h=>absurd h (by omega);replace hn0:=zh hn0;replace am:=zh am;clear hR hO aj hX;go_wp2
   go_loop [7] (fun i=>i=.int .i64 0) (fun _=>0)
   case atStart=>rfl
   case round=>
    obtain rfl:=hrel;go_wp2
    go_loop [8] (fun i=>i=.int .i64 0) (fun _=>0)
    case atStart=>rfl
    case round=>
     obtain rfl:=hrel;go_wp2;go_ret;exact⟨⟨A,c,rfl,aQ.o A⟩,ar.o⟩
  obtain ⟨g,rfl,hM⟩:∃g,A=some ⟨g,0,none⟩/\BM wr w1.heap.size g s.ps.length s.ps.length bl (O0 (Ad s) 0):=by
   have aF:=hO.o
   rcases aF.2 with⟨_,h0⟩|⟨g,cap,cur,e,hb,hg,_⟩
   .omega
   injection e with e1 _ _;subst e1;refine⟨g,rfl,(Array.getElem?_eq_some_iff.1 hg).1,fun i hi=>?_,hR.o.rl,fun i j hi hj=>?_,hR.o.fr,hR.o.inj,fun i hi=>aj.o g rfl i hi,hb,hR.o.low⟩
   .have hc:=aF.cells (g:=g) rfl i (hdr s.ps.length bl i) (by simp[hi])
    rwa [Addr.add_lit,zm]at hc
   rw[hR.o.cell i j hi hj]
   by_cases c:i=j
   .rw[A7 c,A7 (.inl c)]
   rw[At c,At fun d=>d.elim c fun d=>by simp at d]
  replace hM:=zh hM;clear hR hO aj hK aZ;go_wp2
  go_loopw [7] (fun ix wr=>∃i:Nat,i<=s.cap.length/\ix=.int .i64 (i:Int)/\Hid (Below w1.heap.size w1 wr)/\Hid (BM wr w1.heap.size g s.ps.length s.ps.length bl (O0 (Ad s) i))) (fun ix _=>s.cap.length-(intOf ix).toNat)
  case atStart=>exact⟨0,zO _,rfl,aa,hM⟩
  case round=>
   clear aa hM;obtain⟨i,hi,rfl,aa,hM⟩:=hrel;have hX:=ah.o.below aa.o;have x1:=hX.c1;have x8:=hX.lt;have aT:Hid (Below w.heap.size w wr):=al.o.trans (aa.o.mono (by omega));have a4:=hs.o.nc;clear hX
   by_cases hil:i<s.cap.length
   .obtain⟨b,of,rfl,a3,aI⟩:=(hs.o.below aT.o).cap (by omega);obtain⟨e1,e2,_,_,_⟩:=aI i hil;have aM:=aK.o s.cap[i] (zQ hil);have aY:i<(Ad s).length:=by rw[Ex];exact hil
    have ai:=Mm hil;obtain⟨x,hx⟩:∃x,x=s.cap[i]:=⟨_,rfl⟩;rw[<-hx]at e1 e2 aM ai;obtain⟨coI,an,g',nn,dd⟩:=x;obtain⟨⟨i1,i2⟩,i3,i4⟩:=aM;replace i1:0<=coI:=i1;replace i2:coI<s.ps.length:=i2;replace i3:0<=an:=i3;replace i4:an<s.ps.length:=i4;obtain⟨co,rfl⟩:∃c:Nat,coI=(c:Int):=⟨coI.toNat,by omega⟩;obtain⟨ho,rfl⟩:∃c:Nat,an=(c:Int):=⟨an.toNat,by omega⟩;replace ai:(Ad s)[i]=(ho,co):=by simpa using ai
    replace e1:wr.cell? ⟨b,of+i*5,none⟩=some (.int .i64 (co:Int)):=e1;replace e2:wr.cell? ⟨b,of+i*5+1,none⟩=some (.int .i64 (ho:Int)):=e2;have ad:ho<s.ps.length:=by omega
    have ay:co<s.ps.length:=by omega
    have af:Hid (BM ((wr.setCell ⟨bl ho,co,none⟩ (.bool true)).drew) w1.heap.size g s.ps.length s.ps.length bl (O0 (Ad s) (i+1))):=(hM.o.set ad ay (QP aY ai)).of_block (zB _) rfl fun _ _=>rfl;have aq:Hid (Below w1.heap.size w1 ((wr.setCell ⟨bl ho,co,none⟩ (.bool true)).drew)):=(aa.o.setCell (p:=⟨bl ho,co,none⟩) (hM.o.low ho ad) _).drew
    go_upto_region 12 with(fail)
    refine UI w.heap.size b of cc s.cap.length i g co ho (bl ho) s.ps.length c wr hil ay ad x1 e1 e2 (hM.o.hd ho ad) ⟨_,hM.o.cell ho co ad ay⟩ (hM.o.fr ho co ad) ?_;intro a6 a7 a8 a9 ba bb bc bd be bf bg bh bi bj bk bm;clear aI hx ai hM aa x1 e1 e2;go_wp2;exact⟨⟨i+1,by omega,by go_num,aq,af⟩,by simp only[intOf];omega⟩
   obtain rfl:i=s.cap.length:=by omega
   have aG:Hid (BM wr w1.heap.size g s.ps.length s.ps.length bl (DO (Ad s) 0)):=hM.o.congr fun a b _ _=>by
    unfold O0 DO;rw[<-Ex,yJ]
   clear hM;go_wp2
   go_loopw [8] (fun ix wr=>∃(k:Nat)(T:Nat->Nat->Prop),k<=s.ps.length/\ix=.int .i64 (k:Int)/\Hid (Below w1.heap.size w1 wr)/\Hid (BM wr w1.heap.size g s.ps.length s.ps.length bl T)/\Hid (Tab (Ad s) s.ps.length k 0 0 T)) (fun ix _=>s.ps.length-(intOf ix).toNat)
   case atStart=>exact⟨0,_,zO _,rfl,aa,aG,fun a b _ _=>by rw[zC (by omega)]⟩
   case round=>
    clear aa aG x1 x8;obtain⟨k,T,hk,rfl,aa,hM,hT⟩:=hrel
    by_cases hkn:k<s.ps.length
    .go_wp2
     go_loopw [9] (fun ix wr=>∃(i:Nat)(T:Nat->Nat->Prop),i<=s.ps.length/\ix=.int .i64 (i:Int)/\Hid (Below w1.heap.size w1 wr)/\Hid (BM wr w1.heap.size g s.ps.length s.ps.length bl T)/\Hid (Tab (Ad s) s.ps.length k i 0 T)) (fun ix _=>s.ps.length-(intOf ix).toNat)
     case atStart=>exact⟨0,T,zO _,rfl,aa,hM,hT⟩
     case round=>
      clear aa hM hT;obtain⟨i,T,hi,rfl,aa,hM,hT⟩:=hrel
      by_cases hin9:i<s.ps.length
      .go_wp2
       go_loopw [10] (fun ix wr=>∃(j:Nat)(T:Nat->Nat->Prop),j<=s.ps.length/\ix=.int .i64 (j:Int)/\Hid (Below w1.heap.size w1 wr)/\Hid (BM wr w1.heap.size g s.ps.length s.ps.length bl T)/\Hid (Tab (Ad s) s.ps.length k i j T)) (fun ix _=>s.ps.length-(intOf ix).toNat)
       case atStart=>exact⟨0,T,zO _,rfl,aa,hM,hT⟩
       case round=>
        clear aa hM hT;obtain⟨j,T,hj,rfl,aa,hM,hT⟩:=hrel
        by_cases hjn:j<s.ps.length
        .have g1:=hM.o.hd i hin9;have g2:=hM.o.hd k hkn;have g3:=hM.o.cell i k hin9 hkn;have g4:=hM.o.cell k j hkn hjn;have g5:=hM.o.cell i j hin9 hjn;have g6:=hM.o.fr i j hin9;have g7:=hM.o.lt;have g8:=hM.o.rl i hin9;have g9:=hM.o.rl k hkn;have q0:(0:Int)<=(k:Int):=by omega
         have q1:(k:Int)<(s.ps.length:Int):=by omega
         have q2:(0:Int)<=(i:Int):=by omega
         have q3:(i:Int)<(s.ps.length:Int):=by omega
         have q4:(0:Int)<=(j:Int):=by omega
         have q5:(j:Int)<(s.ps.length:Int):=by omega
         by_cases hT1:T i k
         .rw [A7 hT1]at g3
          by_cases hT2:T k j
          .rw[A7 hT2]at g4;have af:Hid (BM (wr.setCell ⟨bl i,j,none⟩ (.bool true)) w1.heap.size g s.ps.length s.ps.length bl (fun a b=>T a b\/(a=i/\b=j))):=hM.o.set hin9 hjn fun _ _=>wY;have aq:Hid (Below w1.heap.size w1 (wr.setCell ⟨bl i,j,none⟩ (.bool true))):=aa.o.setCell (p:=⟨bl i,j,none⟩) (hM.o.low i hin9) _;have ab:Hid (Tab (Ad s) s.ps.length k i (j+1) (fun a b=>T a b\/(a=i/\b=j))):=hT.o.step hkn hin9 hjn fun a b=>⟨fun c=>c.elim .inl fun c=>.inr ⟨c.1,c.2,hT1,hT2⟩,fun c=>c.elim .inl fun c=>.inr ⟨c.1,c.2.1⟩⟩;clear hM aa hT hT1 hT2;go_wp2;exact⟨⟨j+1,_,by omega,by go_num,aq,af,ab⟩,by simp only[intOf];omega⟩
          rw[At hT2]at g4;have ab:Hid (Tab (Ad s) s.ps.length k i (j+1) T):=hT.o.step hkn hin9 hjn fun a b=>⟨.inl,fun c=>c.elim id fun c=>absurd c.2.2.2 hT2⟩;clear hT hT1 hT2;go_wp2;exact⟨⟨j+1,_,by omega,by go_num,aa,hM,ab⟩,by simp only[intOf];omega⟩
         rw[At hT1]at g3;have ab:Hid (Tab (Ad s) s.ps.length k i (j+1) T):=hT.o.step hkn hin9 hjn fun a b=>⟨.inl,fun c=>c.elim id fun c=>absurd c.2.2.1 hT1⟩;clear hT hT1 g4;go_wp2;exact⟨⟨j+1,_,by omega,by go_num,aa,hM,ab⟩,by simp only[intOf];omega⟩
        obtain rfl:j=s.ps.length:=by omega
        have ab:=zh hT.o.next;clear hT;go_wp2;exact⟨⟨i+1,T,by omega,by go_num,aa,hM,ab⟩,by simp only[intOf];omega⟩
      obtain rfl:i=s.ps.length:=by omega
      have ab:=zh hT.o.round;clear hT;go_wp2;exact⟨⟨k+1,T,by omega,by go_num,aa,hM,ab⟩,by simp only[intOf];omega⟩
    obtain rfl:k=s.ps.length:=by omega
    have af:Hid (BM wr w.heap.size g s.ps.length s.ps.length bl (Reach (Ad s))):=by
     have h:=hM.o.congr (T':=Reach (Ad s)) fun a b ha hb=>hT.o.end aL.o ha hb;exact⟨h.lt,h.hd,h.rl,h.cell,h.fr,h.inj,h.ne,by have:=h.lowG;omega,fun i hi=>by have:=h.low i hi;omega⟩
    have ar:Hid (Below w.heap.size w wr):=al.o.trans (aa.o.mono (by omega));clear hT hM aa;go_wp2;go_ret;exact⟨⟨_,c,rfl,fun _=>⟨g,bl,rfl,af.o⟩⟩,ar.o⟩
end Ci
end
section
open Go.RowKit Go.Shelf
namespace Ci
open Nt
open Classical
structure BoD(w:World)(b n:Nat)(f:Nat->Prop):Prop where
 lt:b<w.heap.size
 cell:∀x,x<n->w.cell? ⟨b,x,none⟩=some (.bool (bV (f x)))
 fr:∀x,w.frozen? ⟨b,x,none⟩=false
section
variable {w w':World} {b n:Nat} {f g:Nat->Prop}
theorem BoD.of_block(h:BoD w b n f)(hs:w.heap.size<=w'.heap.size)(hb:w'.heap[b]? = w.heap[b]?):BoD w' b n f :=
 ⟨zL h.lt hs,fun x hx=>(zR (a:=⟨b,x,none⟩) hb).trans (h.cell x hx),fun x=>(zu (a:=⟨b,x,none⟩) hb).trans (h.fr x)⟩
theorem BoD.grown{row:Option Nat}(h:BoD w b n f)(hg:w.grownBy w' row)(hr:row≠some b):BoD w' b n f:=h.of_block hg.size (hg.block b h.lt fun e=>hr e.symm)
theorem BoD.alloc(h:BoD w b n f)(o:Obj):BoD (w.alloc o) b n f:=h.of_block (by simp) (wv w o h.lt)
theorem BoD.set(h:BoD w b n f){x:Nat}(hx:x<n)(hT:∀a,g a<->f a\/a=x):BoD (w.setCell ⟨b,x,none⟩ (.bool true)) b n g:=by
 refine⟨by simpa using h.lt,fun y hy=>?_,fun y=>by simpa using h.fr y⟩
 by_cases e:y=x
 .subst e;rw[zr _ _ _ (h.cell y hy),A7 ((hT y).2 (.inr rfl))]
 rw[zZ _ _ _ _ (fun c=>by injection c with _ c2;first|exact e c2|exact e c2.symm),h.cell y hy]
 by_cases c:f y
 .rw[A7 c,A7 ((hT y).2 (.inl c))]
 rw[At c,At fun d=>((hT y).1 d).elim c e]
theorem BoD.congr(h:BoD w b n f)(e:∀x,x<n->(f x<->g x)):BoD w b n g:=⟨h.lt,fun x hx=>by rw[h.cell x hx];by_cases c:f x;(· rw[A7 c,A7 ((e x hx).1 c)]);(· rw[At c,At fun d=>c ((e x hx).2 d)]),h.fr⟩
theorem BoD.made(w:World)(n:Nat)(t:TypeId):BoD (w.alloc (.cells (madeCells #[.bool false] n) t)) w.heap.size n fun _=>False:=by
 have h:=zo w (.cells (madeCells #[(.bool false:Value)] n) t);refine⟨by simp,fun x hx=>?_,fun x=>by simp only[World.frozen?,h];simp⟩;rw[F5 w n x t hx,At fun h=>h]
end
structure P3(E:List (Nat×Nat))(n:Nat)(w3:World)(gD:Nat)(v:Nat->Value)(pre left:List Nat)(vo:Value)(wr:World):Prop where
 st:Stage n E pre left
 kp:Kp [gD] w3 wr
 dn:BoD wr gD n fun x=>fst E x∉left
 rows:∀x,x∈pre->wr.ownsRow w3.heap.size 3 1 (v x) (CD n E x).length (Bz (CD n E x))
 o:wr.ownsRow w3.heap.size 26 1 vo pre.length (pre.map v)
 apart:∀x,x∈pre->SB (v x) vo
section
variable {E:List (Nat×Nat)} {n p q gD:Nat} {w3 wr w':World} {v:Nat->Value} {pre left:List Nat} {vo:Value}
theorem P3.pre_nodup(h:P3 E n w3 gD v pre left vo wr)(hE:InN n E):pre.Nodup:=by
 have h1:=FR hE;rw[h.st.eq]at h1;exact(List.nodup_append.1 h1).1
structure P4(E:List (Nat×Nat))(n:Nat)(wI:World)(gD:Nat)(left:List Nat)(p q:Nat)(vc:Value)(wr:World):Prop where
 kp:Kp [gD] wI wr
 dn:BoD wr gD n fun x=>fst E x∉left\/(Mut E p x/\x<q)
 row:wr.ownsRow wI.heap.size 3 1 vc (Ah E p q).length (Bz (Ah E p q))
theorem P3.gather(h:P3 E n w3 gD v pre left vo wr)(p:Nat):P4 E n wr gD left p 0 (.slice none 0 0) wr :=
 ⟨Kp.refl _ _,h.dn.congr fun _ _=>⟨.inl,fun c=>c.elim id fun c=>absurd c.2 (zi _)⟩,zq _ _ _ _⟩
theorem P4.skip{wI:World}{vc:Value}(h:P4 E n wI gD left p q vc wr)(hm:¬Mut E p q):P4 E n wI gD left p (q+1) vc wr:=by
 refine⟨h.kp,h.dn.congr fun x _=>?_,?_⟩
 .constructor
  .rintro(a|⟨a,b⟩)
   .exact .inl a
   exact .inr ⟨a,by omega⟩
  rintro(a|⟨a,b⟩)
  .exact .inl a
  by_cases e:x=q
  .subst e;exact absurd a hm
  exact .inr ⟨a,by omega⟩
 rw[Co,zC hm];exact h.row
theorem P4.step{wI wb:World}{vc vb:Value}(h:P4 E n wI gD left p q vc wr)(hm:Mut E p q)(hq:q<n)(aa:gD<wI.heap.size)
 (ho:wb.ownsRow wI.heap.size 3 1 vb ((Ah E p q).length+1) (Bz (Ah E p q)++[.int .i64 (q:Int)]))(hg:(wr.alloc (.cells #[.int .i64 (q:Int)] 3)).grownBy wb vc.ownBlock):
 BoD wb gD n (fun x=>fst E x∉left\/(Mut E p x/\x<q))/\P4 E n wI gD left p (q+1) vb (wb.setCell ⟨gD,q,none⟩ (.bool true)):=by
 have s:∀b,vc.ownBlock=some b->wI.heap.size<=b:=fun b e=>(h.row.lt b e).1;have hD:=(h.dn.alloc (.cells #[.int .i64 (q:Int)] 3)).grown hg fun e=>by have:=s gD e;omega
 refine⟨hD,((h.kp.alloc _).grown hg fun b e=>.inr (s b e)).set (a:=⟨gD,q,none⟩) _ (.inl (by simp)),hD.set hq fun a=>?_,?_⟩
 .constructor
  .rintro(c|⟨c,d⟩)
   .exact .inl (.inl c)
   by_cases e:a=q
   .exact .inr e
   exact .inl (.inr ⟨c,by omega⟩)
  rintro((c|⟨c,d⟩)|e)
  .exact .inl c
  .exact .inr ⟨c,by omega⟩
  subst e;exact .inr ⟨hm,by omega⟩
 rw[Co,zE hm,zY,DE];refine ho.kept (AO wb ⟨gD,q,none⟩ (.bool true)) ?_
 cases hu:vb.ownBlock with
 |none=>exact .inl rfl
 |some b=>exact .inr fun e=>(by have h1:=(ho.lt b hu).1;have h2:b=gD:=Option.some.inj e;omega)
theorem P3.step{wI wb:World}{vc vb:Value}(h:P3 E n w3 gD v pre left vo wI)(h4:P4 E n wI gD left p n vc wr)(al:gD<w3.heap.size)(hp:Ez E left=some p)
 (ho:wb.ownsRow w3.heap.size 26 1 vb (pre.length+1) (pre.map v++[vc]))(hg:(wr.alloc (.cells #[vc] 26)).grownBy wb vo.ownBlock)(hn:vb.ownBlock=vo.ownBlock\/vb.ownBlock=some (wr.alloc (.cells #[vc] 26)).heap.size):
 P3 E n w3 gD (fun x=>if x=p then vc else v x) (pre++[p]) (left.erase p) vb wb:=by
 obtain⟨af,_,_⟩:=Cl h.st.ok hp;have s:∀x,x∈pre->x≠p:=fun x hx e=>by subst e;exact(h.st.had x hx).2.2 af
 have ab:=(h.st.ok.own p af);have ae:=h.kp.size;have aj:=h4.kp.size;have aa:∀b,vo.ownBlock=some b->w3.heap.size<=b/\b<wI.heap.size:=fun b e=>h.o.lt b e;have ah:∀b,vc.ownBlock=some b->wI.heap.size<=b/\b<wr.heap.size:=fun b e=>h4.row.lt b e;have ai:∀x,x∈pre->∀b,(v x).ownBlock=some b->w3.heap.size<=b/\b<wI.heap.size:=fun x hx b e=>(h.rows x hx).lt b e;have ag:(wr.alloc (.cells #[vc] 26)).heap.size=wr.heap.size+1:=by simp
 have ad:∀x,x∈pre->∀b,(v x).ownBlock=some b->vo.ownBlock≠some b:=fun x hx b e c=>h.apart x hx b e c;refine⟨h.st.step hp,?_,?_,fun x hx=>?_,?_,fun x hx b e c=>?_⟩
 .have h1:Kp [gD] w3 wr:=⟨h4.kp.os.trans h.kp.os,h4.kp.tape.trans h.kp.tape,h4.kp.output.trans h.kp.output,zV ae aj,fun k hk hx=>(h4.kp.block k (zL hk ae) hx).trans (h.kp.block k hk hx)⟩;exact(h1.alloc _).grown hg fun b e=>.inr (aa b e).1
 .refine ((h4.dn.alloc _).grown hg fun e=>by have:=(aa gD e).1;omega).congr fun x hx=>?_;rw[h.st.ok.nodup.mem_erase_iff];constructor
  .rintro(a|⟨a,_⟩) ⟨c1,c2⟩
   .exact a c2
   exact c1 (by rw[<-Ey a,ab.2])
  intro c
  by_cases e:fst E x=p
  .exact .inr ⟨Fm.1 (by rw[e,ab.2]),hx⟩
  exact .inl fun d=>c ⟨e,d⟩
 .rcases List.mem_append.1 hx with hx|hx
  .have ak:=s x hx;simp only[zC ak];have h1:=Iv (h.rows x hx) h4.kp fun b e=>by have:=(ai x hx b e).1;simp;omega
   refine(AK h1 ((zI _ wr).alloc (zB _) _)).kept hg ?_
   cases hu:(v x).ownBlock with
   |none=>exact .inl rfl
   |some b=>exact .inr fun e=>ad x hx b hu e.symm
  rw[List.mem_singleton.1 hx];simp only
  have h1:wr.ownsRow w3.heap.size 3 1 vc (CD n E p).length (Bz (CD n E p)):=by
   obtain⟨a1,a2⟩:=h4.row;refine⟨a1,a2.imp id ?_⟩;rintro⟨g,cap,cur,q1,q2,q3⟩;exact⟨g,cap,cur,q1,zV ae q2,q3⟩
  refine(AK h1 ((zI _ wr).alloc (zB _) _)).kept hg ?_
  cases hu:vc.ownBlock with
  |none=>exact .inl rfl
  |some b=>exact .inr fun e=>by have h2:=(ah b hu).1;have h3:=(aa b e.symm).2;omega
 .have e1:(pre++[p]).map (fun x=>if x=p then vc else v x)=pre.map v++[vc]:=by
   rw[yf,wQ,zE rfl]
   congr 1
   exact yX fun x hx=>zC (s x hx)
  rw[zY,e1];exact ho
 rcases List.mem_append.1 hx with hx|hx
 .simp only[zC (s x hx)]at e
  rcases hn with hn|hn
  .exact ad x hx b e (by rw[<-hn,c])
  have h2:=(ai x hx b e).2;rw[c,ag]at hn;simp only[Option.some.injEq]at hn;omega
 rw[List.mem_singleton.1 hx]at e;simp only at e;have h2:=ah b e
 rcases hn with hn|hn
 .rw[c]at hn;have h3:=(aa b hn.symm).2;omega
 rw[c,ag]at hn;simp only[Option.some.injEq]at hn;omega
theorem P3.start(hE:InN n E)(hd:BoD w3 gD n fun _=>False):P3 E n w3 gD v [] (leasts n E) (.slice none 0 0) w3 :=
 ⟨Stage.start hE,Kp.refl _ _,hd.congr fun x hx=>⟨fun h=>h.elim,fun h=>h (B8.2 ⟨FF hx,Fn⟩)⟩,fun x hx=>(by cases hx),zq _ _ _ _,fun x hx=>(by cases hx)⟩
end
end Ci
end
section
open Go.RowKit Go.Shelf
namespace Ci
open Nt
open Classical
def FrQ(E:List (Nat×Nat))(left:List Nat)(p q:Nat):Prop:=fst E p∈left/\∀x,x<q->Reach E x p->¬Reach E p x->fst E x∉left
theorem Mn{E:List (Nat×Nat)}{left:List Nat}{p:Nat}:FrQ E left p 0<->fst E p∈left:=⟨fun h=>h.1,fun h=>⟨h,fun _ hx=>absurd hx (zi _)⟩⟩
theorem IH{E:List (Nat×Nat)}{left:List Nat}{p q:Nat}(h:¬(Reach E q p/\¬Reach E p q/\fst E q∈left)):FrQ E left p (q+1)<->FrQ E left p q:=by
 unfold FrQ;refine and_congr_right fun _=>⟨fun h2 x hx=>h2 x (by omega),fun h2 x hx h3 h4 h5=>?_⟩
 by_cases e:x=q
 .subst e;exact h ⟨h3,h4,h5⟩
 exact h2 x (by omega) h3 h4 h5
theorem Wd{E:List (Nat×Nat)}{left:List Nat}{p q:Nat}(h1:Reach E q p)(h2:¬Reach E p q)(h3:fst E q∈left):¬FrQ E left p (q+1):=fun h=>h.2 q (by omega) h1 h2 h3
def UJ(n:Nat)(E:List (Nat×Nat))(left:List Nat)(m:Nat)(r:Int):Prop:=(r=-1/\∀x,m<=x->x<n->¬FZ n E left x)\/∃x:Nat,r=(x:Int)/\x<n/\m<=x/\FZ n E left x/\∀y,m<=y->y<x->¬FZ n E left y
theorem Ht(s:SR)(Ap Ac Av:Option Addr)(cp cc cv:Nat)(w:World)(hs:StIn w s Ap Ac Av):
 Calls prog 49 #[.agg #[.slice Ap s.ps.length cp,.slice Ac s.cap.length cc,.slice Av s.vot.length cv]] w (GH s w):=by
 have ai:Hid (Bk (w.alloc (.cells #[.slice Ap s.ps.length cp,.slice Ac s.cap.length cc,.slice Av s.vot.length cv] 25)) w.heap.size 25 (SC s Ap Ac Av cp cc cv)):=Bk.new w _ _;have ag:Hid (Below w.heap.size w (w.alloc (.cells #[.slice Ap s.ps.length cp,.slice Ac s.cap.length cc,.slice Av s.vot.length cv] 25))):=(zI _ w).alloc (zB _) _;have u0:=ai.o.c0;have u1:=ai.o.c1;have u2:=ai.o.c2;have u9:=ai.o.lt;have ks:=FW s Ap Ac Av cp cc cv (w.alloc (.cells #[.slice Ap s.ps.length cp,.slice Ac s.cap.length cc,.slice Av s.vot.length cv] 25)) (hs.below ag.o)
 cases aa:Am s with
 |false=>
  have aW:Hid (∀e w',e=.returned (.tuple #[.slice none 0 0,.int .i64 1])->Below w.heap.size w w'->GH s w e w'):=fun e w' h2 h3=>⟨by rw[zC (by rw[aa];simp)];exact h2,h3⟩;rw[aa]at ks;replace ks:=zh ks;replace hs:=zh hs;go_enter func49,ntmps49
  go_wp2_with fail
  refine ks.o.q fun w2 hb=>?_;have ah:=ag.t hb;clear hb;go_wp2;go_ret2;exact aW.o _ _ rfl ah.o
 |true=>
  have bp:=KD aa;have ad:=zh (ET aa);have aG:Hid (∀e w' A c k l,e=.returned (.tuple #[.slice A k c,.int .i64 0])->k=List.length l->Qr w' A l->baR l=CL s->Below w.heap.size w w'->GH s w e w'):=fun e w' A c k l h1 hk h2 h3 h4=>⟨by rw[zE aa];exact⟨A,c,l,by rw[<-hk];exact h1,h2,h3⟩,h4⟩
  have aB:Hid (CL s=(ords s.ps.length (Ad s)).map fun p=>(CD s.ps.length (Ad s) p).map fun(q:Nat)=>(q:Int)):=by
   unfold Hid CL Aj;rw[xC];rfl
  have kr:=zh (fun W h=>QQ s Ap Ac Av cp cc cv W h aa);have bk:=xG (P:=prog) 119 4 (.bool false) 1 underlying119 LN rfl .i64 .i64 s.ps.length (by omega) (by omega);rw[aa]at ks;replace ks:=zh ks;replace hs:=zh hs;replace aa:=zh aa;obtain⟨i0,aM,bb⟩:=Option.map_eq_some_iff.1 FV;simp only[Prod.mk.injEq]at bb;obtain⟨aQ,aR,aS⟩:=bb;replace aM:=zh aM;replace aQ:=zh aQ;replace aR:=zh aR;replace aS:=zh aS;go_enter func49,ntmps49
  go_wp2_with fail
  refine ks.o.q fun w2 hb=>?_;have ah:=ag.t hb;have aj:=zh (ai.o.below hb);have bc:=zh (kr.o w2 (hs.o.below ah.o));clear hb ks ag ai u0 u1 u2 u9 kr;have u0:=aj.o.c0;have u1:=aj.o.c1;have u2:=aj.o.c2;have u9:=aj.o.lt
  go_wp2_with fail
  refine bc.o.mono ?_;rintro e w3 ⟨⟨Ar,cr,rfl,hM⟩,hb⟩;have ar:=ah.t hb;have aH:=zh (aj.o.below hb);have ba:=hb.size;clear hb bc ah aj u0 u1 u2 u9;have u0:=aH.o.c0;have u9:=aH.o.lt;replace hM:=zh hM;have hD:=zh (BoD.made w3 s.ps.length 4);have aV:Hid (Below w.heap.size w (w3.alloc (.cells (madeCells #[.bool false] s.ps.length) 4))):=ar.o.alloc ar.o.size _
  have av:Hid (0<s.ps.length->∃g bl,Ar=some ⟨g,0,none⟩/\BM (w3.alloc (.cells (madeCells #[.bool false] s.ps.length) 4)) w2.heap.size g s.ps.length s.ps.length bl (Reach (Ad s))/\g<w3.heap.size/\∀i,i<s.ps.length->bl i<w3.heap.size):=fun h=>by
   obtain⟨g,bl,h1,h2⟩:=hM.o h;exact⟨g,bl,h1,h2.alloc _,h2.lt,h2.rl⟩
  have al:=zh (P3.start (E:=Ad s) (n:=s.ps.length) (v:=fun _=>.slice none 0 0) ad.o hD.o);go_wp2;obtain⟨w4,aO⟩:∃x,x=w3.alloc (.cells (madeCells #[.bool false] s.ps.length) 4):=⟨_,rfl⟩;have aL:w3.heap.size<w4.heap.size:=by rw[aO];simp
  rw[<-aO]at al aV av ⊢;obtain⟨gD,a1⟩:∃x,x=w3.heap.size:=⟨_,rfl⟩;rw[<-a1]at al av aL ⊢;have br:w.heap.size<=gD:=by have:=ar.o.size;omega
  clear bk hD aO a1 hM aH ar u0 u9 ba;obtain⟨E,aX⟩:∃E,E=Ad s:=⟨_,rfl⟩;rw[<-aX]at ad al av aB;clear aX
  go_loopg [7] (leasts s.ps.length E).length (fun m u wr=>∃(A:Option Addr)(c:Nat)(v:Nat->Value)(pre left:List Nat),m=left.length/\u=.slice A pre.length c/\Hid (P3 E s.ps.length w4 gD v pre left (.slice A pre.length c) wr))
  case atStart=>exact⟨none,0,_,[],_,rfl,rfl,al⟩
  case round=>
   clear al;obtain⟨A,c,v,pre,left,hm,rfl,hP⟩:=hrel
   have aF:Hid (0<s.ps.length->∃g bl,Ar=some ⟨g,0,none⟩/\BM wr w2.heap.size g s.ps.length s.ps.length bl (Reach E)/\g∉[gD]/\∀i,i<s.ps.length->bl i∉[gD]):=fun h=>by
    obtain⟨g,bl,h1,h2,h3,h4⟩:=av.o h;have n1:g∉[gD]:=by simp;omega
    have n2:∀i,i<s.ps.length->bl i∉[gD]:=fun i hi=>by have:=h4 i hi;simp;omega
    exact⟨g,bl,h1,h2.of_block hP.o.kp.size (hP.o.kp.block g h2.lt n1) fun i hi=>hP.o.kp.block (bl i) (h2.rl i hi) (n2 i hi),n1,n2⟩
   have aY:Hid (UJ s.ps.length E left s.ps.length (-1)):=.inl ⟨rfl,fun x h1 h2=>by omega⟩;go_wp2
   go_loopw [8,9] (fun u ix wz=>∃(m:Nat)(r:Int),m<=s.ps.length/\u=.int .i64 r/\ix=.int .i64 ((m:Int)-1)/\wz=wr/\Hid (UJ s.ps.length E left m r)) (fun _ ix _=>(intOf ix+1).toNat)
   case atStart=>exact⟨s.ps.length,-1,zB _,rfl,rfl,rfl,aY⟩
   case round=>
    clear aY;obtain⟨m,r,bq,rfl,rfl,aP,aw⟩:=hrel;subst aP
    by_cases hm0:0<m
    .obtain ⟨p,rfl⟩:∃p,m=p+1:=⟨m-1,by omega⟩;have a9:(((p+1:Nat):Int)-1)=(p:Int):=by omega
     rw[a9];have d:p<s.ps.length:=by omega
     obtain⟨g,bl,rfl,hT,_⟩:=aF.o (by omega);have d1:=hP.o.dn.cell p d;have d2:=hP.o.dn.lt
     have aZ:Hid (bV (FrQ E left p 0)=!(bV (fst E p∉left))):=by
      unfold Hid
      by_cases e:fst E p∈left
      .rw[A7 (Mn.2 e),At fun h=>h e];rfl
      rw[At fun h=>e (Mn.1 h),A7 e];rfl
     have p0:(0:Int)<=(p:Int):=by omega
     have p1:(p:Int)<(s.ps.length:Int):=by omega
     replace hT:=zh hT;clear a9;go_wp2
     go_loopw [10,11] (fun fr ix wz=>∃q:Nat,q<=s.ps.length/\fr=.bool (bV (FrQ E left p q))/\ix=.int .i64 (q:Int)/\wz=wr) (fun _ ix _=>s.ps.length-(intOf ix).toNat)
     case atStart=>exact⟨0,zO _,by rw[aZ.o],rfl,rfl⟩
     case round=>
      clear aZ d1;obtain⟨q,hq,rfl,rfl,aP⟩:=hrel;subst aP
      by_cases hqn:q<s.ps.length
      .have g1:=hT.o.hd q hqn;have g2:=hT.o.hd p d;have g3:=hT.o.cell q p hqn d;have g4:=hT.o.cell p q d hqn;have g5:=hP.o.dn.cell q hqn;have g6:=hT.o.lt;have g7:=hT.o.rl q hqn;have g8:=hT.o.rl p d;have q0:(0:Int)<=(q:Int):=by omega
       have q1:(q:Int)<(s.ps.length:Int):=by omega
       by_cases h1:Reach E q p
       .rw [A7 h1]at g3
        by_cases h2:Reach E p q
        .rw[A7 h2]at g4;have hs:Hid (bV (FrQ E left p q)=bV (FrQ E left p (q+1))):=congrArg bV (propext (IH fun h=>h.2.1 h2).symm);clear h1 h2 g5;go_wp2;exact⟨⟨q+1,by omega,by rw[hs.o],by go_num,trivial⟩,by simp only[intOf];omega⟩
        rw[At h2]at g4
        by_cases h3:fst E q∈left
        .rw[At fun h=>h h3]at g5;have hs:Hid (bV (FrQ E left p (q+1))=false):=At (Wd h1 h2 h3);clear h1 h2 h3;go_wp2;exact⟨⟨q+1,by omega,by rw[hs.o],by go_num,trivial⟩,by simp only[intOf];omega⟩
        rw[A7 h3]at g5;have hs:Hid (bV (FrQ E left p q)=bV (FrQ E left p (q+1))):=congrArg bV (propext (IH fun h=>h3 h.2.2).symm);clear h1 h2 h3;go_wp2;exact⟨⟨q+1,by omega,by rw[hs.o],by go_num,trivial⟩,by simp only[intOf];omega⟩
       rw[At h1]at g3;have hs:Hid (bV (FrQ E left p q)=bV (FrQ E left p (q+1))):=congrArg bV (propext (IH fun h=>h1 h.1).symm);clear h1 g4 g5;go_wp2;exact⟨⟨q+1,by omega,by rw[hs.o],by go_num,trivial⟩,by simp only[intOf];omega⟩
      obtain rfl:q=s.ps.length:=by omega
      have aJ:(bV (FrQ E left p s.ps.length)=true/\Hid (UJ s.ps.length E left p (p:Int)))\/(bV (FrQ E left p s.ps.length)=false/\Hid (UJ s.ps.length E left p r)):=by
       by_cases h:FZ s.ps.length E left p
       .exact .inl ⟨A7 h,.inr ⟨p,rfl,d,zB _,h,fun y h1 h2=>by omega⟩⟩
       refine .inr ⟨At h,?_⟩
       rcases aw.o with⟨h1,h2⟩|⟨x,h1,h2,h3,h4,h5⟩
       .exact .inl ⟨h1,fun x hx bn=>by
         by_cases e:x=p
         .subst e;exact h
         exact h2 x (by omega) bn⟩
       exact .inr ⟨x,h1,h2,by omega,h4,fun y hy bo=>by
        by_cases e:y=p
        .subst e;exact h
        exact h5 y (by omega) bo⟩
      rcases aJ with⟨hb,am⟩|⟨hb,am⟩
      .rw[hb];clear hb;go_wp2;exact⟨⟨p,(p:Int),by omega,rfl,rfl,trivial,am⟩,by simp only[intOf];omega⟩
      rw[hb];clear hb;go_wp2;exact⟨⟨p,r,by omega,rfl,rfl,trivial,am⟩,by simp only[intOf];omega⟩
    obtain rfl:m=0:=by omega
    have hz:(((0:Nat):Int)-1)=-1:=by decide
    rw[hz]
    rcases aw.o with⟨rfl,a7⟩|⟨p,rfl,d,_,a0,a3⟩
    .have bi:left=[]:=Mw ad.o hP.o.st.ok fun x hx=>a7 x (zO _) hx;subst bi;have a8:Hid (ords s.ps.length E=pre):=hP.o.st.end;have bf:=zh (LA (E:=E) (n:=s.ps.length) (by omega) hP.o.o hP.o.rows);have bd:Hid (Below w.heap.size w wr):=hP.o.kp.to_below aV.o fun x hx=>by simp at hx;omega
     have bj:Hid (pre.length=(B5 E s.ps.length v pre).length):=by unfold Hid B5;simp
     clear aw a7 hm hz hP;go_wp2;go_ret2;exact aG.o _ _ A c _ _ rfl bj.o bf.o (by rw[JA,aB.o,a8.o]) bd.o
    have az:Ez E left=some p:=Mv ad.o hP.o.st.ok a0 fun q hq=>a3 q (zO _) hq;have a:=zh (hP.o.gather p);obtain⟨wI,bm⟩:∃x,x=wr:=⟨_,rfl⟩;subst bm;obtain⟨g,bl,rfl,hT,ax⟩:=aF.o (by omega);replace ax:=zh ax;have bh:gD<wI.heap.size:=zL aL hP.o.kp.size;have ak:=(Cl hP.o.st.ok az).1
    have a4:Hid ((left.erase p).length<gk):=by
     rw[hm,yY ak];have:=xt ak;unfold Hid;omega
    have p0:(0:Int)<=(p:Int):=by omega
    have p1:(p:Int)<(s.ps.length:Int):=by omega
    replace hT:=zh hT;replace az:=zh az;clear aw a0 a3 hz aF ak;go_wp2
    go_loopw [12,13] (fun u ix wz=>∃(q:Nat)(Ac:Option Addr)(cc:Nat),q<=s.ps.length/\u=.slice Ac (Ah E p q).length cc/\ix=.int .i64 (q:Int)/\Hid (P4 E s.ps.length wI gD left p q (.slice Ac (Ah E p q).length cc) wz)) (fun _ ix _=>s.ps.length-(intOf ix).toNat)
    case atStart=>exact⟨0,none,0,zO _,rfl,rfl,a⟩
    case round=>
     clear a;obtain⟨q,A1,c1,hq,rfl,rfl,a⟩:=hrel
     by_cases hqn:q<s.ps.length
     .have ab:=hT.o.of_block a.o.kp.size (a.o.kp.block g hT.o.lt ax.o.1) fun i hi=>a.o.kp.block (bl i) (hT.o.rl i hi) (ax.o.2 i hi);have g1:=ab.hd q hqn;have g2:=ab.hd p d;have g3:=ab.cell p q d hqn;have g4:=ab.cell q p hqn d;have g6:=ab.lt;have g7:=ab.rl q hqn;have g8:=ab.rl p d;have q0:(0:Int)<=(q:Int):=by omega
      have q1:(q:Int)<(s.ps.length:Int):=by omega
      clear ab
      by_cases h1:Reach E p q
      .rw [A7 h1]at g3
       by_cases h2:Reach E q p
       .rw [A7 h2]at g4;have aN:=zh (fun vb wb ho hg=>a.o.step (vb:=vb) (wb:=wb) ⟨h1,h2⟩ hqn bh ho hg);have aq:=zh (AK a.o.row ((zI _ wr).alloc (zB _) (.cells #[.int .i64 (q:Int)] 3)))
        have aI:Hid (wI.heap.size<=(wr.alloc (.cells #[.int .i64 (q:Int)] 3)).heap.size):=by
         have:=a.o.kp.size;unfold Hid;rw[zT];omega
        have had:Hid (∀j u,[(Value.int .i64 (q:Int))][j]? = some u->(wr.alloc (.cells #[.int .i64 (q:Int)] 3)).cell? (Addr.add ⟨wr.heap.size,0,none⟩ j)=some u):=BA wr _ _
        have a6:Hid ((Ah E p q).length<=100):=by
         unfold Hid Ah;have h:=yD (fun y=>decide (Mut E p y)) (List.range q);rw[yV]at h;omega
        have ak:Hid ((Ah E p (q+1)).length=(Ah E p q).length+1):=by
         unfold Hid;rw[Co,zE ⟨h1,h2⟩,zY,xz]
        clear a h1 h2
        go_wp2_with (at_builtin;refine wpList_append_new _ rfl _ _ 26 rfl wI.heap.size 3 i0 (.int .i64 0) 1 8 underlying26 aM.o aQ.o aR.o aS.o rfl (by decide) (.slice A1 (Ah E p q).length c1) _ _ rfl aq.o ⟨wr.heap.size,0,none⟩ 1 1 [.int .i64 (q:Int)] rfl rfl had.o (AQ _ rfl) (by decide) (by have:=a6.o;unfold maxLen;omega) (by have:=a6.o;omega) aI.o ?_;intro aT aU af an ay;obtain⟨au,ae⟩:=aN.o aT aU af an;have k1:=au.cell q hqn;have k2:=au.fr q;have k3:=au.lt;obtain⟨A9,c9,rfl⟩:=Cu af;replace ae:=zh ae;clear af an ay au)
        exact⟨⟨q+1,A9,c9,by omega,by rw[ak.o],by go_num,by have h:=ae.o;rwa [<-ak.o]at h⟩,by simp only[intOf];omega⟩
       rw[At h2]at g4;have hs:=a.o.skip fun c=>h2 c.2;have ao:Hid (Ah E p (q+1)=Ah E p q):=by unfold Hid;rw[Co,zC fun c=>h2 c.2]
       rw[<-ao.o]at hs;replace hs:=zh hs;clear h1 h2 a;go_wp2;exact⟨⟨q+1,A1,c1,by omega,by rw[ao.o],by go_num,hs⟩,by simp only[intOf];omega⟩
      rw[At h1]at g3;have hs:=a.o.skip fun c=>h1 c.1;have ao:Hid (Ah E p (q+1)=Ah E p q):=by unfold Hid;rw[Co,zC fun c=>h1 c.1]
      rw[<-ao.o]at hs;replace hs:=zh hs;clear h1 g4 a;go_wp2;exact⟨⟨q+1,A1,c1,by omega,by rw[ao.o],by go_num,hs⟩,by simp only[intOf];omega⟩
     obtain rfl:q=s.ps.length:=by omega
     have aN:=zh (fun vb wb ho hg hn=>hP.o.step (vb:=vb) (wb:=wb) a.o aL az.o ho hg hn);have be:=hP.o.kp.size;have bg:=a.o.kp.size;have aq:=zh (AK (Iv hP.o.o a.o.kp fun b e=>by have:=(hP.o.o.lt b e).1;simp;omega) ((zI _ wr).alloc (zB _) (.cells #[.slice A1 (Ah E p s.ps.length).length c1] 26)))
     have aI:Hid (w4.heap.size<=(wr.alloc (.cells #[.slice A1 (Ah E p s.ps.length).length c1] 26)).heap.size):=by
      unfold Hid;rw[zT];omega
     have had:Hid (∀j u,[(Value.slice A1 (Ah E p s.ps.length).length c1)][j]? = some u->(wr.alloc (.cells #[.slice A1 (Ah E p s.ps.length).length c1] 26)).cell? (Addr.add ⟨wr.heap.size,0,none⟩ j)=some u):=BA wr _ _
     have a5:Hid (pre.length<=100):=by
      have h1:=C6 s.ps.length pre (hP.o.pre_nodup ad.o) fun x hx=>(hP.o.st.had x hx).1;unfold Hid;omega
     have aA:Hid ((pre++[p]).length=pre.length+1):=by unfold Hid;simp
     obtain⟨g0,aK,a2⟩:=Option.map_eq_some_iff.1 OO;simp only[Prod.mk.injEq]at a2;obtain⟨aC,aD,aE⟩:=a2;replace aK:=zh aK;replace aC:=zh aC;replace aD:=zh aD;replace aE:=zh aE;clear hP a be bg
     go_wp2_with (at_builtin;refine wpList_append_new _ rfl _ _ 70 rfl w4.heap.size 26 g0 (.slice none 0 0) 1 24 underlying70 aK.o aC.o aD.o aE.o rfl (by decide) (.slice A pre.length c) pre.length _ rfl aq.o ⟨wr.heap.size,0,none⟩ 1 1 [.slice A1 (Ah E p s.ps.length).length c1] rfl rfl had.o (AQ _ rfl) (by decide) (by have:=a5.o;unfold maxLen;omega) (by have:=a5.o;omega) aI.o ?_;intro aT aU af an ay;have ae:=aN.o aT aU af an ay;obtain⟨A9,c9,rfl⟩:=Cu af;replace ae:=zh ae;clear af an ay)
     go_roundg (left.erase p).length
     case measure=>exact a4.o
     case rel=>exact⟨A9,c9,_,pre++[p],left.erase p,rfl,by rw[aA.o],by have h:=ae.o;rwa [<-aA.o]at h⟩
end Ci
end
end Go.Proofs.YtmfjbpcecpgchaaGreatDoor

/- Parts of the proof. -/
import Derived.Test.YtefmpngjjmddjaaGreatDoorKgE
set_option maxHeartbeats 16000000
set_option maxRecDepth 1000000
open Go.Proofs.Tryz
namespace Go.Proofs.YtefmpngjjmddjaaGreatDoor
theorem tkgF{P:Program}{md:Region.Mode}{ops:Array Oper}{Q:Exit->Act->World->Prop}{S:World->Prop}{oi:Oper}{v:Value}{fuel:Nat}{listed:Array Bool}{a:Act}{w:World}(i:Nat)(hi:ops[i]?=some oi)(hS:S w)(hy:YieldsIf P ops S oi v a)(h:wpAnyH P md ops Q S fuel (listed.setIfInBounds i true) (a.put oi.dst v) w)(hs:Region.noSelect ops=true:=by kernel_rfl)(hf:Region.free md ops listed i=true:=by kernel_rfl)(hr:(Region.ready md ops listed).contains i=true:=by kernel_rfl)(hQ:∀c a w,Q (.panic c) (a.put oi.dst v) w->Q (.panic c) a w:=by exact fun _ _ _ h=>h):wpAnyH P md ops Q S (fuel+1) listed a w:=xY hi hs hf hr hQ hy hS h
section
open Go.RowKit Go.Shelf
namespace Nt
def CV:Code->List Code
 |.loop c=>c::CV c
 |.seq a b=>CV a++CV b
 |.block _ c=>CV c
 |.scope c=>CV c
 |.cond _ a b=>CV a++CV b
 |_=>[]
noncomputable def Xa:Code:=((Tryz.f39.body.map CV).bind fun l=>l[2]?).getD .skip
def SQ(q:Rat):Bool:=decide (ShortQ q)
def Ju(n:Nat)(M0:Mx)(w:World)(e:Ending)(w':World):Prop :=
 Below w.heap.size w w'/\((∃M v,AA SQ n n M0=.ok M/\e=.returned (.tuple #[v,.int .i64 0])/\w'.ownsRow w.heap.size 48 3 v n (AN n fun i=>rq (M i n)))\/(∃er:Int,AA SQ n n M0=.error er/\e=.returned (.tuple #[.slice none 0 0,.int .i64 er])))
theorem G2{S:Rat->Bool}{n k:Nat}{M0 M:Mx}{e:Int}(h:AA S n k M0=.ok M)(hs:CQ S n k M=.error e)(hk:k<n):AA S n n M0=.error e:=by
 have key:∀m,k+1<=m->AA S n m M0=.error e:=by
  intro m
  induction m with
  |zero=>intro h;omega
  |succ m ih=>
   intro hm;unfold AA
   by_cases e1:m=k
   .rw[e1,h];exact hs
   rw[ih (by omega)];rfl
 exact key n hk
theorem Jv{P:Nat->Prop}{k n:Nat}(h:¬∀j,k<=j->j<=n->P j):∃t,k<=t/\t<=n/\(∀j,k<=j->j<t->P j)/\¬P t:=by
 have key : ∀m,(∀j,k<=j->j<m->P j)\/∃t,k<=t/\t<m/\(∀j,k<=j->j<t->P j)/\¬P t:=by
  intro m
  induction m with
  |zero=>exact .inl fun j _ h=>absurd h (by omega)
  |succ m ih=>
   rcases ih with ih|⟨t,a,b,c,d⟩
   .by_cases hm:k<=m
    .by_cases hp:P m
     .refine .inl fun j h1 h2=>?_
      by_cases e:j=m
      .rw[e];exact hp
      exact ih j h1 (by omega)
     exact .inr ⟨m,hm,by omega,ih,hp⟩
    exact .inl fun j h1 h2=>ih j h1 (by omega)
   exact .inr ⟨t,a,by omega,c,d⟩
 rcases key (n+1) with h1|⟨t,a,b,c,d⟩
 .exact absurd (fun j a b=>h1 j a (by omega)) h
 exact⟨t,a,by omega,c,d⟩
theorem Pu{n k:Nat}{M:Mx}(h:Idq SQ n k M=false):∃t,k<=t/\t<=n/\(∀j,k<=j->j<t->ShortQ (M k j)/\ShortQ (M k k))/\¬(ShortQ (M k t)/\ShortQ (M k k)):=by
 refine Jv fun h2=>?_;have:Idq SQ n k M=true:=(Fb SQ).2 fun j a b=>⟨zG (h2 j a b).1,zG (h2 j a b).2⟩;rw[h]at this;cases this
theorem Pv{n k i:Nat}{M:Mx}(h:Ie SQ n k i M=false):∃t,k<=t/\t<=n/\(∀j,k<=j->j<t->ShortQ (M i k)/\ShortQ (M k j)/\ShortQ (M i j)/\ShortQ (M i k*M k j))/\¬(ShortQ (M i k)/\ShortQ (M k t)/\ShortQ (M i t)/\ShortQ (M i k*M k t)):=by
 refine Jv fun h2=>?_;have:Ie SQ n k i M=true:=(Fc SQ).2 fun j a b=>⟨zG (h2 j a b).1,zG (h2 j a b).2.1,zG (h2 j a b).2.2.1,zG (h2 j a b).2.2.2⟩;rw[h]at this;cases this
theorem MatW.drewN{W:World}{B R n:Nat}{bl:Nat->Nat}{M:Mx}(h:MatW W B R n bl M)(q:Nat):MatW (W.drewN q) B R n bl M:=⟨h.lt,h.hd,h.fr,h.rows,h.inj,h.ne,h.lowR,h.low⟩
theorem Pw{S:Rat->Bool}{n k i m:Nat}{M:Mx}(d:i<=m)(h:AL S n k i M=none):AL S n k m M=none:=by
 induction m with
 |zero=>rw[show i=0 by omega]at h;exact h
 |succ m ih=>
  by_cases e:i=m+1
  .rw[<-e];exact h
  unfold AL;rw[ih (by omega)];rfl
def RQ(w:World)(R n k kb vb:Nat)(bl:Nat->Nat)(M2:Mx)(y:Nat)(wq:World):Prop :=
 ∃M3:Mx,Hid (AL SQ n k y M2=some M3)/\Hid (MatW wq w.heap.size R n bl M3)/\Hid (∀i j,i<n->j<=n->OkQ (M3 i j))/\Hid (Below w.heap.size w wq)/\Hid (Int1 wq w.heap.size n)/\Hid (Int1 wq kb k)/\Hid (Blk1 wq vb (.slice (some ⟨bl k,k*3,none⟩) (n+1-k) (n+1-k)))
theorem MX{c0 c1 c2 c3 c6 c7 c8 bd be bf bg bh bi bj bk bm bn bo bp bq br bs bt bu bv bw bx bz bA bB bC bD bE bF bG bH bI bJ bK bL bM bN bO bP bQ bR bS bT bU bW bX bY bZ b0 b1 b2 b3 b4 b5 b6 b7 b8 b9 cb cd cf cg ch ci cj ck cm cn cq cr ct cu cx cy cz cA cB cC cD cE cF cG cH cI cJ cK cL al am an ao ap aq ar au av aw ax ay az aA aB aC aD aE aF aG aH aI aJ aK aL aM aN aO aP aQ aR aS aT a4 a5 dE dF dG a17 cT cU cV cW cX cY cZ c9 da db dc dd de dg dh di dj dk dl dm dq dr ds dt du:Value}{Q:Exit->Act->World->Prop}(R n k kb vb:Nat)(bl:Nat->Nat)(M2:Mx)(w w0:World)(hE:Env w)(dO:n<=8)(hk:k<n)(cS:RQ w R n k kb vb bl M2 0 w0)
 (hx:∀(u4 u5 u14 u15 u16 u17 u119 u120 u121 u122 u123 u124 u125 u126 u127 u128 u129 u130 u131 u132 u133 u134 u135 u136 u137 u138 u139 u140 u141 u142 u143 u144:Value)(wq:World),RQ w R n k kb vb bl M2 n wq->Q (.exit 4) ⟨#[c0,c1,c2,c3,u4,u5,c6,c7,c8,.pointer (some ⟨kb,0,none⟩),bd,.pointer (some ⟨vb,0,none⟩),be,bf,u14,u15,u16,u17,bg,bh,bi,bj,bk,bm,bn,bo,bp,bq,br,bs,bt,bu,bv,bw,bx,bz,bA,bB,bC,bD,bE,bF,bG,bH,bI,bJ,bK,bL,bM,bN,bO,bP,bQ,bR,bS,bT,bU,bW,bX,bY,bZ,b0,b1,b2,b3,b4,b5,b6,b7,b8,b9,cb,cd,cf,cg,ch,ci,cj,ck,cm,cn,cq,cr,ct,cu,cx,cy,cz,cA,cB,cC,cD,cE,cF,cG,cH,cI,cJ,cK,cL,al,am,an,ao,ap,aq,ar,au,av,aw,ax,ay,az,aA,aB,aC,aD,.slice (some ⟨R,0,none⟩) n n,.int .i64 (n:Int),u119,u120,u121,u122,u123,u124,u125,u126,u127,u128,u129,u130,u131,u132,u133,u134,u135,u136,u137,u138,u139,u140,u141,u142,u143,u144,aE,aF,aG,aH,aI,aJ,aK,aL,aM,aN,aO,aP,aQ,aR,aS,aT],[]⟩ wq)
 (hr:∀(u14 u15 u16 u17 u119 u120 u121 u122 u123 u124 u125 u126 u127 u128 u129 u130 u131 u132 u133 u134 u135 u136 u137 u138 u139 u140 u141 u142 u143 u144:Value)(wq:World),Below w.heap.size w wq->AL SQ n k n M2=none->Q .ret ⟨#[c0,c1,c2,c3,.slice none 0 0,.int .i64 2,c6,c7,c8,.pointer (some ⟨kb,0,none⟩),bd,.pointer (some ⟨vb,0,none⟩),be,bf,u14,u15,u16,u17,bg,bh,bi,bj,bk,bm,bn,bo,bp,bq,br,bs,bt,bu,bv,bw,bx,bz,bA,bB,bC,bD,bE,bF,bG,bH,bI,bJ,bK,bL,bM,bN,bO,bP,bQ,bR,bS,bT,bU,bW,bX,bY,bZ,b0,b1,b2,b3,b4,b5,b6,b7,b8,b9,cb,cd,cf,cg,ch,ci,cj,ck,cm,cn,cq,cr,ct,cu,cx,cy,cz,cA,cB,cC,cD,cE,cF,cG,cH,cI,cJ,cK,cL,al,am,an,ao,ap,aq,ar,au,av,aw,ax,ay,az,aA,aB,aC,aD,.slice (some ⟨R,0,none⟩) n n,.int .i64 (n:Int),u119,u120,u121,u122,u123,u124,u125,u126,u127,u128,u129,u130,u131,u132,u133,u134,u135,u136,u137,u138,u139,u140,u141,u142,u143,u144,aE,aF,aG,aH,aI,aJ,aK,aL,aM,aN,aO,aP,aQ,aR,aS,aT],[]⟩ wq):
 Code.wp prog (Code.loop Xa) Q ⟨#[c0,c1,c2,c3,a4,a5,c6,c7,c8,.pointer (some ⟨kb,0,none⟩),bd,.pointer (some ⟨vb,0,none⟩),be,bf,dE,dF,dG,a17,bg,bh,bi,bj,bk,bm,bn,bo,bp,bq,br,bs,bt,bu,bv,bw,bx,bz,bA,bB,bC,bD,bE,bF,bG,bH,bI,bJ,bK,bL,bM,bN,bO,bP,bQ,bR,bS,bT,bU,bW,bX,bY,bZ,b0,b1,b2,b3,b4,b5,b6,b7,b8,b9,cb,cd,cf,cg,ch,ci,cj,ck,cm,cn,cq,cr,ct,cu,cx,cy,cz,cA,cB,cC,cD,cE,cF,cG,cH,cI,cJ,cK,cL,al,am,an,ao,ap,aq,ar,au,av,aw,ax,ay,az,aA,aB,aC,aD,.slice (some ⟨R,0,none⟩) n n,.int .i64 (n:Int),.int .i64 0,cT,cU,cV,cW,cX,cY,cZ,c9,da,db,dc,dd,de,dg,dh,di,dj,dk,dl,dm,dq,dr,ds,dt,du,aE,aF,aG,aH,aI,aJ,aK,aL,aM,aN,aO,aP,aQ,aR,aS,aT],[]⟩ w0:=by
 conv=>arg 2;arg 1;whnf
 conv=>arg 4;zeta
 have dN:k<=8:=by omega
 replace hE:=zh hE;replace cS:=zh cS;replace hx:=zh hx;replace hr:=zh hr
 go_loopw [119] (fun i wq=>∃y:Nat,y<=n/\i=.int .i64 (y:Int)/\Hid (RQ w R n k kb vb bl M2 y wq)) (fun i _=>n-(intOf i).toNat)
 case atStart=>exact⟨0,zQ _,rfl,cS.o⟩
 case round=>
  obtain⟨i,hi,rfl,hI⟩:=hrel
  by_cases hlt2:i<n
  .obtain ⟨M3,a8,hM,hO,cN,dx,a9,dD⟩:=hI.o;clear hI;have c1:=hM.o.hd i hlt2;have c2:=hM.o.lt;have c3:=a9.o.cell;have c4:=a9.o.lt;obtain⟨e1,e2,e3⟩:=(hM.o.rows i hlt2).cell (j:=k) (by omega);have e4:=(hM.o.rows i hlt2).lt;have s2:(k:Int)<(n:Int)+1:=by omega
   have s3:(0:Int)<=(k:Int):=by omega
   obtain⟨fg,fn,fd,ab⟩:=CM (M3 i k);rw[ab]at e1 e2 e3;have aV:=zh (hM.o.alloc (.cells #[.bool fg,.string fn,.string fd] 48));have aj:=zh (a9.o.alloc (.cells #[.bool fg,.string fn,.string fd] 48));have aU:=zh (dx.o.alloc (.cells #[.bool fg,.string fn,.string fd] 48));have aZ:=zh (dD.o.alloc (.cells #[.bool fg,.string fn,.string fd] 48));have af:=zh (cN.o.alloc cN.o.size (.cells #[.bool fg,.string fn,.string fd] 48));have ai:=zh (B3.new wr fg fn fd)
   by_cases hik:i=k
   .have h1:(i==k)=true:=by rw[yw];exact hik
    have h2:((i:Int)==(k:Int))=true:=by rw[yw];omega
    have aa:Hid (AL SQ n k (i+1) M2=some M3):=by
     show AL SQ n k (i+1) M2=some M3
     unfold AL;rw[a8.o]
     show BL SQ n k i M3=some M3
     unfold BL;rw[zD (.inl hik)]
    replace hik:=zh hik;replace ab:=zh ab
    go_wp2_with fail
    go_quiet (fail)
    go_wp2
    go_roundw
    case rel=>exact⟨i+1,by omega,by go_num,M3,aa,aV.o.drewN nq,hO,Dc af.o nq,aU.o,aj.o,aZ.o⟩
    case measure=>simp[intOf];omega
   have h1:(i==k)=false:=by rw[zP];exact hik
   have h2:((i:Int)==(k:Int))=false:=by rw[zP];omega
   have kz:=zh If;obtain⟨g1,g2,g3,g4,g5,g6⟩:=ai.o.facts;have k1:=aj.o.cell;have k2:=aj.o.lt;have k3:=ai.o.lt;have aW:Hid ((wr.alloc (.cells #[.bool fg,.string fn,.string fd] 48)).cell? ⟨kb,0,none⟩=some (.int .i64 (k:Int))/\(wr.alloc (.cells #[.bool fg,.string fn,.string fd] 48)).cell? ⟨wr.heap.size,0,none⟩=some (.bool fg)/\(wr.alloc (.cells #[.bool fg,.string fn,.string fd] 48)).cell? ⟨wr.heap.size,1,none⟩=some (.string fn)/\(wr.alloc (.cells #[.bool fg,.string fn,.string fd] 48)).cell? ⟨wr.heap.size,2,none⟩=some (.string fd)):=⟨k1,g1,g2,g3⟩;obtain⟨w4,a6⟩:∃W,W=wr.alloc (.cells #[.bool fg,.string fn,.string fd] 48):=⟨_,rfl⟩;rw[<-a6]at aV aj aU aZ af ai aW k1 k2 k3 g1 g2 g3 g4 g5 g6;obtain⟨fb,aX⟩:∃x,x=wr.heap.size:=⟨_,rfl⟩;rw[<-aX]at ai aW k3 g1 g2 g3 g4 g5 g6;replace a6:=zh a6;replace aX:=zh aX;replace hik:=zh hik
   go_wp2_with fail
   rw[<-a6.o,<-aX.o];clear c1 c2 c3 c4 e1 e2 e3 e4 hM a9 dD dx cN a6 aX
   by_cases h0:M3 i k=0
   .have aa:Hid (AL SQ n k (i+1) M2=some M3):=by
     show AL SQ n k (i+1) M2=some M3
     unfold AL;rw[a8.o]
     show BL SQ n k i M3=some M3
     unfold BL;rw[zD (.inr h0)]
    obtain ⟨rfl,rfl,rfl⟩:fg=false/\fn=⟨#[48]⟩/\fd=⟨#[49]⟩:=by
     rw[h0,rq_zero]at ab;injection ab with a1 a2;injection a2 with a3 a4;exact⟨a1.symm,a3.symm,a4.symm⟩
    replace ab:=zh ab;replace h0:=zh h0
    go_region_held3 (fun w'=>w'.cell? ⟨kb,0,none⟩=some (.int .i64 (k:Int))/\w'.cell? ⟨fb,0,none⟩=some (.bool false)/\w'.cell? ⟨fb,1,none⟩=some (.string ⟨#[48]⟩)/\w'.cell? ⟨fb,2,none⟩=some (.string ⟨#[49]⟩)) (first|(with_reducible exact aW.o)|(exact⟨(d.cell (p:=⟨kb,0,none⟩) k2).trans k1,(d.cell (p:=⟨fb,0,none⟩) k3).trans g1,(d.cell (p:=⟨fb,1,none⟩) k3).trans g2,(d.cell (p:=⟨fb,2,none⟩) k3).trans g3⟩)|go_keep)
     (first
       |(go_at_call 82;refine(kz.o _).q fun w5 d=>?_;replace d:Below w4.heap.size w4 w5:=(zI _ w4).drew.trans d;have ah:=zh (aV.o.below d);have aY:=zh (aj.o.below d);have a7:=zh (aU.o.below d);have ak:=zh (aZ.o.below d);have cP:=zh (ai.o.below d);have ag:=af.t d))
    all_goals (
     go_wp2
     go_roundw
     case rel=>exact⟨i+1,by omega,by go_num,M3,aa,ah.o,hO,ag.o,a7.o,aY.o,ak.o⟩
     case measure=>simp[intOf];omega
     )
   have hz:(fn.toList==[48])=false:=by
    have:=RM h0
    rwa [ab]at this
   replace ab:=zh ab
   go_region_held3 (fun w'=>w'.cell? ⟨kb,0,none⟩=some (.int .i64 (k:Int))/\w'.cell? ⟨fb,0,none⟩=some (.bool fg)/\w'.cell? ⟨fb,1,none⟩=some (.string fn)/\w'.cell? ⟨fb,2,none⟩=some (.string fd)) (first|(with_reducible exact aW.o)|(exact⟨(d.cell (p:=⟨kb,0,none⟩) k2).trans k1,(d.cell (p:=⟨fb,0,none⟩) k3).trans g1,(d.cell (p:=⟨fb,1,none⟩) k3).trans g2,(d.cell (p:=⟨fb,2,none⟩) k3).trans g3⟩)|go_keep)
    (first
      |(go_at_call 82;refine(kz.o _).q fun w5 d=>?_;replace d:Below w4.heap.size w4 w5:=(zI _ w4).drew.trans d;have ah:=zh (aV.o.below d);have aY:=zh (aj.o.below d);have a7:=zh (aU.o.below d);have ak:=zh (aZ.o.below d);have cP:=zh (ai.o.below d);have ag:=af.t d))
   clear g1 g2 g3 g4 g5 g6 k1 k2 k3 aW aV aj aU aZ af ai h1 h2;have ad:=zh (ah.o.rows i hlt2);have ba:=zh (ah.o.low i hlt2);have bc:=zh (cP.o.ne_row ad.o (by omega));have a0:=zh (ak.o.ne_row ad.o);have dB:=zh (aY.o.ne_row ad.o);have dw:=zh (a7.o.ne_row ad.o);have dy:Hid (bl k≠bl i):=fun e=>hik.o (ah.o.inj k i hk hlt2 e).symm;have hS:=zh (ah.o.rows k hk);have dv:=zh ((EnvB.of hE.o).below ag.o);have bb:Hid (B3 w5 fb (rq (M3 i k)).1 (rq (M3 i k)).2.1 (rq (M3 i k)).2.2):=by rw[ab.o];exact cP.o
   have k1:=aY.o.cell;have s4:¬n+1=k:=by omega
   cases ae:Ie SQ n k i M3 with
   |true=>
    have cR:=(Fc SQ).1 ae
    have kd:=zh (fun cap=>MT w.heap.size (bl i) k (n+1) cap (fun j=>M3 i j) (M3 i k) (fun j=>M3 k j) fb vb (bl k) (n+1-k) w5 dv.o ba.o ad.o (by omega) (by omega) bb.o bc.o ak.o a0.o hS.o dy.o fun j a b=>by
     obtain⟨x1,x2,x3,x4⟩:=cR j a (by omega);exact⟨zL x1,zL x2,zL x3,zL x4⟩)
    have aa:Hid (AL SQ n k (i+1) M2=some (Dq k i M3)):=by
     show AL SQ n k (i+1) M2=some (Dq k i M3)
     unfold AL;rw[a8.o]
     show BL SQ n k i M3=some (Dq k i M3)
     unfold BL;rw[zC (by rintro(h|h);(· exact hik.o h);(· exact h0 h)),zD ae]
    have dJ:Hid (∀i' j,i'<n->j<=n->OkQ (Dq k i M3 i' j)):=fun i' j dz hj=>by
     unfold Dq
     split
     .rename_i hc;obtain⟨x1,x2,x3,x4⟩:=cR j hc.2 hj;exact Ob (zL x3) (zL x4)
     exact hO.o i' j dz hj
    replace h0:=zh h0;clear cR ae hz
    all_goals (
     go_wp2_with fail
     refine(kd.o _).q fun w6 ⟨hg,dC⟩=>?_;have cM:=zh (ag.o.trans (Ba hg ba.o ag.o.size))
     have dI:=zh (ah.o.change hlt2 hg (M':=Dq k i M3) (dC.congr fun j hj=>by
      unfold Dq
      by_cases a1:k<=j
      .rw[zD a1,zD ⟨rfl,a1⟩]
      rw[zC a1,zC fun h=>a1 h.2]) (fun i' dz dL=>by funext j;unfold Dq;rw[zC fun h=>dL h.1]))
     have dK:=zh (aY.o.grown hg dB.o);have dH:=zh (a7.o.grown hg dw.o);have dM:=zh (ak.o.grown hg a0.o);clear hg dC k1;go_wp2
     go_roundw
     case rel=>exact⟨i+1,by omega,by go_num,_,aa,dI,dJ,cM,dH,dK,dM⟩
     case measure=>simp[intOf];omega
     )
   |false=>
    obtain⟨t,t1,t2,t3,t4⟩:=Pv ae;have kd:=zh (fun cap=>MU w.heap.size (bl i) k (n+1) cap (fun j=>M3 i j) (M3 i k) (fun j=>M3 k j) fb vb (bl k) (n+1-k) w5 dv.o ba.o ad.o (by omega) (by omega) bb.o bc.o ak.o a0.o hS.o dy.o t t1 (by omega) t3 t4 (fun j a b=>⟨hO.o i j hlt2 (by omega),hO.o k j hk (by omega)⟩) (hO.o i k hlt2 (by omega)))
    have aa:Hid (AL SQ n k n M2=none):=by
     refine Pw (i:=i+1) (by omega) ?_;unfold AL;rw[a8.o]
     show BL SQ n k i M3=none
     unfold BL;rw[zC (by rintro(h|h);(· exact hik.o h);(· exact h0 h)),zC (by rw[ae];simp)]
    replace h0:=zh h0;clear t1 t2 t3 t4 ae hz
    all_goals (
     go_wp2_with fail
     refine(kd.o _).q fun w6 hg=>?_;have cM:=zh (ag.o.trans (Ba hg ba.o ag.o.size));clear hg k1;go_wp2;apply hr.o
     .exact cM.o
     .exact aa.o
     )
  obtain rfl:n=i:=by omega
  go_wp2;apply hx.o;exact hI.o
def Bo:Code->List Code
 |.loop c=>Bo c
 |.seq a b=>Bo a++Bo b
 |.block _ c=>Bo c
 |.scope c=>Bo c
 |.cond _ a b=>Bo a++Bo b
 |.region a b c=>[.region a b c]
 |_=>[]
noncomputable def Xb:Code:=((Tryz.f39.body.map Bo).bind fun l=>l[20]?).getD .skip
theorem FY{w:World}{p q:Addr}{x y:Value}(hp:w.cell? p=some x)(hq:w.cell? q=some y)(v:Value):∃u,(w.setCell p v).cell? q=some u:=by
 by_cases e:q=p
 .rw[e];exact⟨v,yV w _ _ hp⟩
 exact⟨y,(yD w _ _ _ (fun e2=>e (by first|exact e2|exact e2.symm))).trans hq⟩
theorem RR{c0 d1 d2 d3 d4 d5 c6 c8 be bf bg bh bi bj bk bm bn bo bp bq br bs bt bu bv bw bx bz bA bB bC bD bE bF bG bH bI bJ bK bL bM bN bO bP bQ bR bS bT bU bW bX bY bZ b0 b1 b2 b3 b4 b5 b6 b7 b8 b9 cb cd cf cg ch ci cj ck cm cn cq cr ct cu cx cy cz cA cC cD cE cF cG cH cI cJ cK cL cM cN cP cR cS cT bc bd ad ae af ag ah ai aj ak al am an ao ap aq ar au av aw ax ay az aA aB aC aD aE aF aG aH aI aJ aK aL aM aN aO aP aQ aR aS aT aU aV aW aX aY aZ a0 a1 a2 a3 a4 a5 a6 a7 a8 a9 ba bb:Value}{Q:Exit->Act->World->Prop}(R n k f kb:Nat)(bl:Nat->Nat)(w3:World)
 (c1:w3.cell? ⟨kb,0,none⟩=some (.int .i64 (k:Int)))
 (c2:w3.cell? ⟨R,k+f,none⟩=some (.slice (some ⟨bl (k+f),0,none⟩) (n+1) (n+1)))
 (c3:w3.cell? ⟨R,k,none⟩=some (.slice (some ⟨bl k,0,none⟩) (n+1) (n+1)))
 (c4:w3.frozen? ⟨R,k+f,none⟩=false)(c5:w3.frozen? ⟨R,k,none⟩=false)
 (cB:kb≠R)(cW:n<=8)(cV:k<n)(cX:k+f<n)
 (h:∀u84 u85 u86 u87 u88 u89 u90 u91 u92 u93 u94 u95 u96 u97 u98 u99 u100 u101:Value,Q .normal ⟨#[c0,d1,d2,d3,d4,d5,c6,.slice (some ⟨R,0,none⟩) n n,c8,.pointer (some ⟨kb,0,none⟩),.int .i64 (f:Int),be,bf,bg,bh,bi,bj,bk,bm,bn,bo,bp,bq,br,bs,bt,bu,bv,bw,bx,bz,bA,bB,bC,bD,bE,bF,bG,bH,bI,bJ,bK,bL,bM,bN,bO,bP,bQ,bR,bS,bT,bU,bW,bX,bY,bZ,b0,b1,b2,b3,b4,b5,b6,b7,b8,b9,cb,cd,cf,cg,ch,ci,cj,ck,cm,cn,cq,cr,ct,cu,cx,cy,cz,cA,u84,u85,u86,u87,u88,u89,u90,u91,u92,u93,u94,u95,u96,u97,u98,u99,u100,u101,ad,ae,af,ag,ah,ai,aj,ak,al,am,an,ao,ap,aq,ar,au,av,aw,ax,ay,az,aA,aB,aC,aD,aE,aF,aG,aH,aI,aJ,aK,aL,aM,aN,aO,aP,aQ,aR,aS,aT,aU,aV,aW,aX,aY,aZ,a0,a1,a2,a3,a4,a5,a6,a7,a8,a9,ba,bb],[]⟩ (((w3.setCell ⟨R,k,none⟩ (.slice (some ⟨bl (k+f),0,none⟩) (n+1) (n+1))).setCell ⟨R,k+f,none⟩ (.slice (some ⟨bl k,0,none⟩) (n+1) (n+1))).drew)):
 Code.wp prog Xb Q ⟨#[c0,d1,d2,d3,d4,d5,c6,.slice (some ⟨R,0,none⟩) n n,c8,.pointer (some ⟨kb,0,none⟩),.int .i64 (f:Int),be,bf,bg,bh,bi,bj,bk,bm,bn,bo,bp,bq,br,bs,bt,bu,bv,bw,bx,bz,bA,bB,bC,bD,bE,bF,bG,bH,bI,bJ,bK,bL,bM,bN,bO,bP,bQ,bR,bS,bT,bU,bW,bX,bY,bZ,b0,b1,b2,b3,b4,b5,b6,b7,b8,b9,cb,cd,cf,cg,ch,ci,cj,ck,cm,cn,cq,cr,ct,cu,cx,cy,cz,cA,cC,cD,cE,cF,cG,cH,cI,cJ,cK,cL,cM,cN,cP,cR,cS,cT,bc,bd,ad,ae,af,ag,ah,ai,aj,ak,al,am,an,ao,ap,aq,ar,au,av,aw,ax,ay,az,aA,aB,aC,aD,aE,aF,aG,aH,aI,aJ,aK,aL,aM,aN,aO,aP,aQ,aR,aS,aT,aU,aV,aW,aX,aY,aZ,a0,a1,a2,a3,a4,a5,a6,a7,a8,a9,ba,bb],[]⟩ w3:=by
 have s0:(0:Int)<=(f:Int):=by omega
 have s7:(0:Int)<=(k:Int):=by omega
 have s1:(0:Int)<=(k:Int)+(f:Int):=by omega
 have s2:(k:Int)+(f:Int)<(n:Int):=by omega
 have s3:(k:Int)<(n:Int):=by omega
 have s4:IntKind.i64.wrap ((k:Int)+(f:Int))=(k:Int)+(f:Int):=xx _ (by omega);have s5:((k:Int)+(f:Int)).toNat=k+f:=by omega
 obtain⟨v1,cY⟩:∃u,(w3.setCell ⟨R,k,none⟩ (.slice (some ⟨bl (k+f),0,none⟩) (n+1) (n+1))).cell? ⟨R,k+f,none⟩=some u:=FY c3 c2 _;obtain⟨v2,cZ⟩:∃u,(w3.setCell ⟨R,k+f,none⟩ (.slice (some ⟨bl k,0,none⟩) (n+1) (n+1))).cell? ⟨R,k,none⟩=some u:=FY c2 c3 _
 conv=>arg 2;whnf
 conv=>arg 4;zeta
 replace h:=zh h;have y1:(w3.setCell ⟨R,k,none⟩ (.slice (some ⟨bl (k+f),0,none⟩) (n+1) (n+1))).cell? ⟨kb,0,none⟩=some (.int .i64 (k:Int)):=(yD w3 _ _ _ (fun e=>cB (congrArg Addr.block e).symm)).trans c1;have y2:((w3.setCell ⟨R,k,none⟩ (.slice (some ⟨bl (k+f),0,none⟩) (n+1) (n+1))).setCell ⟨R,k+f,none⟩ (.slice (some ⟨bl k,0,none⟩) (n+1) (n+1))).cell? ⟨kb,0,none⟩=some (.int .i64 (k:Int)):=(yD _ _ _ _ (fun e=>cB (congrArg Addr.block e).symm)).trans y1;have cU:Hid (w3.cell? ⟨kb,0,none⟩=some (.int .i64 (k:Int))/\(w3.setCell ⟨R,k,none⟩ (.slice (some ⟨bl (k+f),0,none⟩) (n+1) (n+1))).cell? ⟨kb,0,none⟩=some (.int .i64 (k:Int))/\((w3.setCell ⟨R,k,none⟩ (.slice (some ⟨bl (k+f),0,none⟩) (n+1) (n+1))).setCell ⟨R,k+f,none⟩ (.slice (some ⟨bl k,0,none⟩) (n+1) (n+1))).cell? ⟨kb,0,none⟩=some (.int .i64 (k:Int))):=⟨c1,y1,y2⟩;have z0:w3.drew.cell? ⟨kb,0,none⟩=some (.int .i64 (k:Int)):=c1;have z1:(w3.setCell ⟨R,k,none⟩ (.slice (some ⟨bl (k+f),0,none⟩) (n+1) (n+1))).drew.cell? ⟨kb,0,none⟩=some (.int .i64 (k:Int)):=y1;have z2:((w3.setCell ⟨R,k,none⟩ (.slice (some ⟨bl (k+f),0,none⟩) (n+1) (n+1))).setCell ⟨R,k+f,none⟩ (.slice (some ⟨bl k,0,none⟩) (n+1) (n+1))).drew.cell? ⟨kb,0,none⟩=some (.int .i64 (k:Int)):=y2;clear y1 y2;refine yx ?_;refine yq (S:=(fun w'=>w'.cell? ⟨kb,0,none⟩=some (.int .i64 (k:Int)))) (by kernel_rfl) z0 (fun ab=>?_);refine tkgF (v:=?_) 0 rfl (by assumption) (Or.inl ⟨by rfl,?_⟩) ?_;rotate_left
 . (intro w aa;(try dsimp only at aa);go_simp<;>with_reducible rfl)
 simp only[Act.put,zA];refine tkgF (v:=?_) 1 rfl (by assumption) (Or.inl ⟨by rfl,?_⟩) ?_;rotate_left
 . (intro w aa;(try dsimp only at aa);go_simp<;>with_reducible rfl)
 simp only[Act.put];refine tkgF (v:=?_) 2 rfl (by assumption) (Or.inl ⟨by rfl,?_⟩) ?_;rotate_left
 . (intro w aa;(try dsimp only at aa);go_simp<;>with_reducible rfl)
 simp only[Act.put];refine tkgF (v:=?_) 3 rfl (by assumption) (Or.inl ⟨by rfl,?_⟩) ?_;rotate_left
 . (intro w aa;(try dsimp only at aa);go_simp<;>with_reducible rfl)
 simp only[Act.put];refine tkgF (v:=?_) 4 rfl (by assumption) (Or.inl ⟨by rfl,?_⟩) ?_;rotate_left
 . (intro w aa;(try dsimp only at aa);go_simp<;>with_reducible rfl)
 simp only[Act.put];refine tkgF (v:=?_) 5 rfl (by assumption) (Or.inl ⟨by rfl,?_⟩) ?_;rotate_left
 . (intro w aa;(try dsimp only at aa);go_simp<;>with_reducible rfl)
 simp only[Act.put];refine tkgF (v:=?_) 6 rfl (by assumption) (Or.inl ⟨by rfl,?_⟩) ?_;rotate_left
 . (intro w aa;(try dsimp only at aa);go_simp<;>with_reducible rfl)
 simp only[Act.put];refine tkgF (v:=?_) 7 rfl (by assumption) (Or.inl ⟨by rfl,?_⟩) ?_;rotate_left
 . (intro w aa;(try dsimp only at aa);go_simp<;>with_reducible rfl)
 simp only[Act.put];refine tkgF (v:=?_) 8 rfl (by assumption) (Or.inl ⟨by rfl,?_⟩) ?_;rotate_left
 . (intro w aa;(try dsimp only at aa);go_simp<;>with_reducible rfl)
 simp only[Act.put];refine tkgF (v:=?_) 9 rfl (by assumption) (Or.inl ⟨by rfl,?_⟩) ?_;rotate_left
 . (intro w aa;(try dsimp only at aa);go_simp<;>with_reducible rfl)
 simp only[Act.put];refine tkgF (v:=?_) 10 rfl (by assumption) (Or.inl ⟨by rfl,?_⟩) ?_;rotate_left
 . (intro w aa;(try dsimp only at aa);go_simp<;>with_reducible rfl)
 simp only[Act.put];refine tkgF (v:=?_) 12 rfl (by assumption) (Or.inl ⟨by rfl,?_⟩) ?_;rotate_left
 . (intro w aa;(try dsimp only at aa);go_simp<;>with_reducible rfl)
 simp only[Act.put];refine tkgF (v:=?_) 13 rfl (by assumption) (Or.inl ⟨by rfl,?_⟩) ?_;rotate_left
 . (intro w aa;(try dsimp only at aa);go_simp<;>with_reducible rfl)
 simp only[Act.put];refine tkgF (v:=?_) 14 rfl (by assumption) (Or.inl ⟨by rfl,?_⟩) ?_;rotate_left
 . (intro w aa;(try dsimp only at aa);go_simp<;>with_reducible rfl)
 simp only[Act.put];refine zU (rs:=[11,15]) (by kernel_rfl) (by simp) ?_;refine zK (o:=_) rfl (fun K hK=>?_) ?_
 .go_simp;refine hK.o _ _ (by with_reducible exact z0) (fun d=>?_);clear hK K ab;have ab:=d;clear d
  try simp only[Act.put,zA,zF,zE]
  refine zU (rs:=[15]) (by kernel_rfl) (by simp) ?_;refine zK (o:=_) rfl (fun K hK=>?_) ?_
  .go_simp;refine hK.o _ _ (by with_reducible exact z0) (fun d=>?_);clear hK K ab;have ab:=d;clear d
   try simp only[Act.put,zA,zF,zE]
   refine tkgF (v:=?_) 16 rfl (by assumption) (Or.inl ⟨by rfl,?_⟩) ?_;rotate_left
   . (intro w aa;(try dsimp only at aa);go_simp<;>with_reducible rfl)
   simp only[Act.put,zA];refine zU (rs:=[17]) (by kernel_rfl) (by simp) ?_;refine zK (o:=_) rfl (fun K hK=>?_) ?_
   .go_simp;refine hK.o _ _ (by with_reducible exact z1) (fun d=>?_);clear hK K ab;have ab:=d;clear d
    try simp only[Act.put,zA,zF,zE]
    refine tkgF (v:=?_) 18 rfl (by assumption) (Or.inl ⟨by rfl,?_⟩) ?_;rotate_left
    . (intro w aa;(try dsimp only at aa);go_simp<;>with_reducible rfl)
    simp only[Act.put,zA];refine zU (rs:=[19]) (by kernel_rfl) (by simp) ?_;refine zK (o:=_) rfl (fun K hK=>?_) ?_
    .go_simp;refine hK.o _ _ (by with_reducible exact z2) (fun d=>?_);clear hK K ab;have ab:=d;clear d
     try simp only[Act.put,zA,zF,zE]
     refine yz (by kernel_rfl) ?_ _;refine yX ?_;exact h.o ..
    exact zR
   exact zR
  exact zR
 refine zK (o:=_) rfl (fun K hK=>?_) ?_
 .go_simp;refine hK.o _ _ (by with_reducible exact z0) (fun d=>?_);clear hK K ab;have ab:=d;clear d
  try simp only[Act.put,zA,zF,zE]
  refine zU (rs:=[11]) (by kernel_rfl) (by simp) ?_;refine zK (o:=_) rfl (fun K hK=>?_) ?_
  .go_simp;refine hK.o _ _ (by with_reducible exact z0) (fun d=>?_);clear hK K ab;have ab:=d;clear d
   try simp only[Act.put,zA,zF,zE]
   refine tkgF (v:=?_) 16 rfl (by assumption) (Or.inl ⟨by rfl,?_⟩) ?_;rotate_left
   . (intro w aa;(try dsimp only at aa);go_simp<;>with_reducible rfl)
   simp only[Act.put,zA];refine zU (rs:=[17]) (by kernel_rfl) (by simp) ?_;refine zK (o:=_) rfl (fun K hK=>?_) ?_
   .go_simp;refine hK.o _ _ (by with_reducible exact z1) (fun d=>?_);clear hK K ab;have ab:=d;clear d
    try simp only[Act.put,zA,zF,zE]
    refine tkgF (v:=?_) 18 rfl (by assumption) (Or.inl ⟨by rfl,?_⟩) ?_;rotate_left
    . (intro w aa;(try dsimp only at aa);go_simp<;>with_reducible rfl)
    simp only[Act.put,zA];refine zU (rs:=[19]) (by kernel_rfl) (by simp) ?_;refine zK (o:=_) rfl (fun K hK=>?_) ?_
    .go_simp;refine hK.o _ _ (by with_reducible exact z2) (fun d=>?_);clear hK K ab;have ab:=d;clear d
     try simp only[Act.put,zA,zF,zE]
     refine yz (by kernel_rfl) ?_ _;refine yX ?_;exact h.o ..
    exact zR
   exact zR
  exact zR
 exact zR
noncomputable def Xc:Code:=((Tryz.f39.body.map CV).bind fun l=>l[1]?).getD .skip
def MY(w:World)(R n:Nat)(M0:Mx)(y:Nat)(wq:World):Prop :=
 ∃(bl:Nat->Nat)(M:Mx),Hid (AA SQ n y M0=.ok M)/\Hid (MatW wq w.heap.size R n bl M)/\Hid (∀i j,i<n->j<=n->OkQ (M i j))/\Hid (Below w.heap.size w wq)/\Hid (Int1 wq w.heap.size n)
theorem MZ{c0 c1 c2 c3 c6 c8 aS aT aU aV aW aX aY aZ a0 a1 a2 a3 a6 a7 a8 ba bb bc bd be bf bg bh bi bj bk bm bn bo bp bq br bs bt bu bv bw bx bz bA bB bC bD bE bF bG bH bI bJ bK bL bM bN bO bP ai aj ak al am an ao ap aq ar au av aw ax ay a4 a5 a9 dP dQ dR dS dT dU dV a17 dW dX dY a78 a79 dZ d0 d1 d2 d3 d4 d5 d6 d7 a89 d8 d9 ea eb ec ed ee ef eg eh b9 cb cd cf cg ch ci cj ck cm cn cq cr ct cu cx cy cz cA cB cC cD cE cF cG cH cI cJ cK cL cM cN cP cR cS cT cU cV cW cX cY cZ c9 da db dc:Value}{Q:Exit->Act->World->Prop}(R n:Nat)(M0:Mx)(w w0:World)(hE:Env w)(dh:n<=8)(b5:w.heap.size≠R)(aH:MY w R n M0 0 w0)
 (hx:∀(u4 u5 u9 u10 u11 u12 u13 u14 u15 u16 u17 u74 u75 u76 u77 u78 u79 u80 u81 u82 u83 u84 u85 u86 u87 u88 u89 u90 u91 u92 u93 u94 u95 u96 u97 u98 u99 u100 u101 u102 u103 u104 u105 u106 u107 u108 u109 u110 u111 u112 u113 u114 u115 u116 u117 u118 u119 u120 u121 u122 u123 u124 u125 u126 u127 u128 u129 u130 u131 u132 u133 u134 u135 u136 u137 u138 u139 u140 u141 u142 u143 u144 u145:Value) (wq:World),MY w R n M0 n wq->Q (.exit 2) ⟨#[c0,c1,c2,c3,u4,u5,c6,.slice (some ⟨R,0,none⟩) n n,c8,u9,u10,u11,u12,u13,u14,u15,u16,u17,aS,aT,aU,aV,aW,aX,aY,aZ,a0,a1,a2,a3,a6,a7,a8,ba,bb,bc,bd,be,bf,bg,bh,bi,bj,bk,bm,bn,bo,bp,bq,br,bs,bt,bu,bv,bw,bx,bz,bA,bB,bC,bD,bE,bF,bG,bH,bI,bJ,bK,bL,bM,bN,bO,bP,.int .i64 (n:Int),u74,u75,u76,u77,u78,u79,u80,u81,u82,u83,u84,u85,u86,u87,u88,u89,u90,u91,u92,u93,u94,u95,u96,u97,u98,u99,u100,u101,u102,u103,u104,u105,u106,u107,u108,u109,u110,u111,u112,u113,u114,u115,u116,u117,u118,u119,u120,u121,u122,u123,u124,u125,u126,u127,u128,u129,u130,u131,u132,u133,u134,u135,u136,u137,u138,u139,u140,u141,u142,u143,u144,u145,ai,aj,ak,al,am,an,ao,ap,aq,ar,au,av,aw,ax,ay],[]⟩ wq)
 (hr:∀(er:Int)(u9 u10 u11 u12 u13 u14 u15 u16 u17 u74 u75 u76 u77 u78 u79 u80 u81 u82 u83 u84 u85 u86 u87 u88 u89 u90 u91 u92 u93 u94 u95 u96 u97 u98 u99 u100 u101 u102 u103 u104 u105 u106 u107 u108 u109 u110 u111 u112 u113 u114 u115 u116 u117 u118 u119 u120 u121 u122 u123 u124 u125 u126 u127 u128 u129 u130 u131 u132 u133 u134 u135 u136 u137 u138 u139 u140 u141 u142 u143 u144 u145:Value)(wq:World),Below w.heap.size w wq->AA SQ n n M0=.error er->Q .ret ⟨#[c0,c1,c2,c3,.slice none 0 0,.int .i64 er,c6,.slice (some ⟨R,0,none⟩) n n,c8,u9,u10,u11,u12,u13,u14,u15,u16,u17,aS,aT,aU,aV,aW,aX,aY,aZ,a0,a1,a2,a3,a6,a7,a8,ba,bb,bc,bd,be,bf,bg,bh,bi,bj,bk,bm,bn,bo,bp,bq,br,bs,bt,bu,bv,bw,bx,bz,bA,bB,bC,bD,bE,bF,bG,bH,bI,bJ,bK,bL,bM,bN,bO,bP,.int .i64 (n:Int),u74,u75,u76,u77,u78,u79,u80,u81,u82,u83,u84,u85,u86,u87,u88,u89,u90,u91,u92,u93,u94,u95,u96,u97,u98,u99,u100,u101,u102,u103,u104,u105,u106,u107,u108,u109,u110,u111,u112,u113,u114,u115,u116,u117,u118,u119,u120,u121,u122,u123,u124,u125,u126,u127,u128,u129,u130,u131,u132,u133,u134,u135,u136,u137,u138,u139,u140,u141,u142,u143,u144,u145,ai,aj,ak,al,am,an,ao,ap,aq,ar,au,av,aw,ax,ay],[]⟩ wq):
 Code.wp prog (Code.loop Xc) Q ⟨#[c0,c1,c2,c3,a4,a5,c6,.slice (some ⟨R,0,none⟩) n n,c8,a9,dP,dQ,dR,dS,dT,dU,dV,a17,aS,aT,aU,aV,aW,aX,aY,aZ,a0,a1,a2,a3,a6,a7,a8,ba,bb,bc,bd,be,bf,bg,bh,bi,bj,bk,bm,bn,bo,bp,bq,br,bs,bt,bu,bv,bw,bx,bz,bA,bB,bC,bD,bE,bF,bG,bH,bI,bJ,bK,bL,bM,bN,bO,bP,.int .i64 (n:Int),.int .i64 0,dW,dX,dY,a78,a79,dZ,d0,d1,d2,d3,d4,d5,d6,d7,a89,d8,d9,ea,eb,ec,ed,ee,ef,eg,eh,b9,cb,cd,cf,cg,ch,ci,cj,ck,cm,cn,cq,cr,ct,cu,cx,cy,cz,cA,cB,cC,cD,cE,cF,cG,cH,cI,cJ,cK,cL,cM,cN,cP,cR,cS,cT,cU,cV,cW,cX,cY,cZ,c9,da,db,dc,ai,aj,ak,al,am,an,ao,ap,aq,ar,au,av,aw,ax,ay],[]⟩ w0:=by
 conv=>arg 2;arg 1;whnf
 conv=>arg 4;zeta
 replace hE:=zh hE;replace aH:=zh aH;replace hx:=zh hx;replace hr:=zh hr;replace b5:=zh b5
 go_loopw [74] (fun i wq=>∃y:Nat,y<=n/\i=.int .i64 (y:Int)/\Hid (MY w R n M0 y wq)) (fun i _=>n-(intOf i).toNat)
 case atStart=>exact⟨0,zQ _,rfl,aH.o⟩
 case round=>
  obtain⟨k,hk,rfl,hI⟩:=hrel;have ej:=hI.o;obtain⟨bl,M,hS,hM,hO,ae,de⟩:=ej
  by_cases hlt:k<n
  .have b4:Hid (Int1 (wr.alloc (.cells #[.int .i64 (k:Int)] 3)) wr.heap.size k):=Int1.new wr k;have bW:=zh (hM.o.alloc (.cells #[.int .i64 (k:Int)] 3));have kx:=zh (fun c=>RN w.heap.size R n k c wr.heap.size bl M (wr.alloc (.cells #[.int .i64 (k:Int)] 3)) hlt (by omega) bW.o b4.o);have k0:(0:Int)<=(k:Int):=by omega
   have k1:(k:Int)<=(n:Int):=by omega
   have k2:¬n=k:=by omega
   cases hp:CP n k M (n-k) with
   |none=>
    have aF:IQ n k M=-1:=by unfold IQ;rw[hp]
    have ad:CQ SQ n k M=.error 12:=by unfold CQ;rw[hp]
    have aA:=zh (G2 hS.o ad hlt);replace kx:=kx.o;rw[aF]at kx;replace kx:=zh kx;clear hp aF ad
    go_wp2_with fail
    refine(kx.o _).q fun w3 hb=>?_;have aJ:=zh ((ae.o.alloc ae.o.size _).trans (hb.mono (ae.o.alloc ae.o.size _).size));clear hb;go_wp2;apply hr.o 12
    .exact aJ.o
    exact aA.o
   |some p=>
    obtain⟨eA,aP,aQ,_⟩:=FC (by omega) hp;obtain⟨f,rfl⟩:∃f,p=k+f:=⟨p-k,by omega⟩;have aF:IQ n k M=(f:Int):=by unfold IQ;rw[hp];show ((k+f-k:Nat):Int)=f;rw[Nat.add_sub_cancel_left]
    replace kx:=kx.o;rw[aF]at kx;replace kx:=zh kx;replace hp:=zh hp;replace aQ:=zh aQ;clear aF
    go_wp2_with fail
    refine(kx.o _).q fun w3 hb=>?_;have aJ:=zh ((ae.o.alloc ae.o.size _).trans (hb.mono (ae.o.alloc ae.o.size _).size));have ab:=zh (bW.o.below hb);have bZ:=zh (b4.o.below hb);have dd:=zh ((de.o.alloc (.cells #[.int .i64 (k:Int)] 3)).below hb);clear hb;have c1:=bZ.o.cell;have c2:=ab.o.hd (k+f) aP;have c3:=ab.o.hd k hlt;have c4:=ab.o.fr (k+f);have c5:=ab.o.fr k;have c6:=ab.o.lt;have s0:(0:Int)<=(f:Int):=by omega
    have s1:(0:Int)<=(k:Int)+(f:Int):=by omega
    have s2:(k:Int)+(f:Int)<(n:Int):=by omega
    have s3:(k:Int)<(n:Int):=by omega
    have s4:IntKind.i64.wrap ((k:Int)+(f:Int))=(k:Int)+(f:Int):=xx _ (by omega);have s5:((k:Int)+(f:Int)).toNat=k+f:=by omega
    have b3:wr.heap.size≠R:=vL hM.o.lt;obtain⟨u1,eo⟩:∃u,(w3.setCell ⟨R,k,none⟩ (.slice (some ⟨bl (k+f),0,none⟩) (n+1) (n+1))).cell? ⟨R,k+f,none⟩=some u:=FY c3 c2 _;obtain⟨u2,ep⟩:∃u,(w3.setCell ⟨R,k+f,none⟩ (.slice (some ⟨bl k,0,none⟩) (n+1) (n+1))).cell? ⟨R,k,none⟩=some u:=FY c2 c3 _
    go_wp2_with fail
    refine RR R n k f wr.heap.size bl w3 c1 c2 c3 c4 c5 b3 dh hlt aP ?_;intro eC eD eE eF eG eH eI eJ eK eL eM eN eO eP eQ eR ex ey;have aN:Hid (wr.heap.size≠R/\w.heap.size≠R):=⟨b3,b5.o⟩;have aB:Hid (MatW (((w3.setCell ⟨R,k,none⟩ (.slice (some ⟨bl (k+f),0,none⟩) (n+1) (n+1))).setCell ⟨R,k+f,none⟩ (.slice (some ⟨bl k,0,none⟩) (n+1) (n+1))).drew) w.heap.size R n (GS k (k+f) bl) (By k (k+f) M)):=(ab.o.swap hlt aP).drew;have aD:Hid (Int1 (((w3.setCell ⟨R,k,none⟩ (.slice (some ⟨bl (k+f),0,none⟩) (n+1) (n+1))).setCell ⟨R,k+f,none⟩ (.slice (some ⟨bl k,0,none⟩) (n+1) (n+1))).drew) wr.heap.size k):=(bZ.o.far (p:=⟨R,k,none⟩) aN.o.1 _).far (p:=⟨R,k+f,none⟩) aN.o.1 _;have bQ:Hid (Int1 (((w3.setCell ⟨R,k,none⟩ (.slice (some ⟨bl (k+f),0,none⟩) (n+1) (n+1))).setCell ⟨R,k+f,none⟩ (.slice (some ⟨bl k,0,none⟩) (n+1) (n+1))).drew) w.heap.size n):=(dd.o.far (p:=⟨R,k,none⟩) aN.o.2 _).far (p:=⟨R,k+f,none⟩) aN.o.2 _;have aK:Hid (Below w.heap.size w (((w3.setCell ⟨R,k,none⟩ (.slice (some ⟨bl (k+f),0,none⟩) (n+1) (n+1))).setCell ⟨R,k+f,none⟩ (.slice (some ⟨bl k,0,none⟩) (n+1) (n+1))).drew)):=((aJ.o.setCell ab.o.lowR _).setCell ab.o.lowR _).drew;obtain⟨w4,dj⟩:∃W,W=((w3.setCell ⟨R,k,none⟩ (.slice (some ⟨bl (k+f),0,none⟩) (n+1) (n+1))).setCell ⟨R,k+f,none⟩ (.slice (some ⟨bl k,0,none⟩) (n+1) (n+1))).drew:=⟨_,rfl⟩;rw[<-dj]at aB aD bQ aK ⊢;clear dj eo ep c1 c2 c3 c4 c5 c6 s0 s1 s2 s4 s5 b3 ab bZ dd aJ bW b4 kx
    have aM:Hid (∀i j,i<n->j<=n->OkQ (By k (k+f) M i j)):=fun i j hi hj=>by
     unfold By
     split
     .exact hO.o _ _ aP hj
     split
     .exact hO.o _ _ hlt hj
     exact hO.o _ _ hi hj
    have ah:By k (k+f) M k k≠0:=by unfold By;rw[zD rfl];exact aQ.o
    have ad:CQ SQ n k M=if Idq SQ n k (By k (k+f) M)=true then (match AL SQ n k n (Bn k (By k (k+f) M)) with|some M'=>.ok M' | none=>.error 2) else .error 2:=by
     unfold CQ;rw[hp.o];try rfl
    replace ad:=zh ad;generalize By k (k+f) M=M1 at *;generalize GS k (k+f) bl=d at *;replace ah:=zh ah;clear aQ hp u1 u2;have c1:=aD.o.cell;have c2:=aB.o.hd k hlt;have c3:=aB.o.lt;have c4:=aD.o.lt;have s0:(k:Int)<=(n:Int)+1:=by omega
    have s1:¬n+1=k:=by omega
    have dg:Hid (w4.cell? ⟨wr.heap.size,0,none⟩=some (.int .i64 (k:Int))/\w4.cell? ⟨R,k,none⟩=some (.slice (some ⟨d k,0,none⟩) (n+1) (n+1))):=⟨c1,c2⟩
    go_wp2_with fail
    go_region_held3 (fun w'=>w'.cell? ⟨wr.heap.size,0,none⟩=some (.int .i64 (k:Int))/\w'.cell? ⟨R,k,none⟩=some (.slice (some ⟨d k,0,none⟩) (n+1) (n+1))) (first|(with_reducible exact dg.o)|go_keep) (fail)
    have aI:Hid (Blk1 (w4.alloc (.cells #[.slice (some ⟨d k,k*3,none⟩) (n+1-k) (n+1-k)] 39)).drew w4.heap.size (.slice (some ⟨d k,k*3,none⟩) (n+1-k) (n+1-k))):=yR w4 _;have aC:Hid (MatW (w4.alloc (.cells #[.slice (some ⟨d k,k*3,none⟩) (n+1-k) (n+1-k)] 39)).drew w.heap.size R n d M1):=(aB.o.alloc _).drew;have b0:Hid (Int1 (w4.alloc (.cells #[.slice (some ⟨d k,k*3,none⟩) (n+1-k) (n+1-k)] 39)).drew wr.heap.size k):=aD.o.alloc _;have bR:Hid (Int1 (w4.alloc (.cells #[.slice (some ⟨d k,k*3,none⟩) (n+1-k) (n+1-k)] 39)).drew w.heap.size n):=bQ.o.alloc _;have aL:Hid (Below w.heap.size w (w4.alloc (.cells #[.slice (some ⟨d k,k*3,none⟩) (n+1-k) (n+1-k)] 39)).drew):=(aK.o.alloc aK.o.size _).drew;obtain⟨w5,dk⟩:∃W,W=(w4.alloc (.cells #[.slice (some ⟨d k,k*3,none⟩) (n+1-k) (n+1-k)] 39)).drew:=⟨_,rfl⟩;rw[<-dk]at aI aC b0 bR aL ⊢;clear dk aB aD bQ aK c1 c2 c3 c4 s0 dg hM ae de;generalize w4.heap.size=vb at *;generalize wr.heap.size=kb at *;obtain⟨pg,pn,pd,aG⟩:=CM (M1 k k);have e0:=(aC.o.rows k hlt).cell (j:=k) (by omega);rw[aG]at e0;obtain⟨e1,e2,e3⟩:=e0;have e4:=(aC.o.rows k hlt).lt;have v1:=aI.o.cell;have v2:=aI.o.lt;have v3:0<n+1-k:=by omega
    replace aG:=zh aG;have aa:=zh (aC.o.alloc (.cells #[.bool pg,.string pn,.string pd] 48));have b1:=zh (b0.o.alloc (.cells #[.bool pg,.string pn,.string pd] 48));have bS:=zh (bR.o.alloc (.cells #[.bool pg,.string pn,.string pd] 48));have b7:=zh (aI.o.alloc (.cells #[.bool pg,.string pn,.string pd] 48));have af:=zh (aL.o.alloc aL.o.size (.cells #[.bool pg,.string pn,.string pd] 48));have aR:Hid (B3 (w5.alloc (.cells #[.bool pg,.string pn,.string pd] 48)) w5.heap.size (rq (M1 k k)).1 (rq (M1 k k)).2.1 (rq (M1 k k)).2.2):=by rw[aG.o];exact B3.new w5 _ _ _
    have b6:=zh (aR.o.ne_row (aa.o.rows k hlt) (by omega))
    cases hd:Idq SQ n k M1 with
    |false=>
     obtain⟨t,t1,t2,t3,t4⟩:=Pu hd;have kd:=zh (fun c=>MR w.heap.size (d k) k (n+1) c (fun j=>M1 k j) (M1 k k) w5.heap.size _ ((EnvB.of hE.o).below af.o) (aa.o.low k hlt) (aa.o.rows k hlt) (by omega) (by omega) aR.o b6.o ah.o t t1 (by omega) t3 t4 (fun j _ h2=>aM.o k j hlt (by omega)) (aM.o k k hlt (by omega)));rw[hd,zC (by simp)]at ad;have aA:=zh (G2 hS.o ad.o hlt);have aO:=zh (aa.o.low k hlt);clear t1 t2 t3 t4 hd
     go_wp2_with fail
     refine(kd.o _).q fun w7 hg=>?_;have az:=zh (af.o.trans (Ba hg aO.o af.o.size));clear hg e1 e2 e3 e4 v1 v2;go_wp2;apply hr.o 2
     .exact az.o
     exact aA.o
    |true=>
     have aE:=(Fb SQ).1 hd;have kd:=zh (fun c=>MQ w.heap.size (d k) k (n+1) c (fun j=>M1 k j) (M1 k k) w5.heap.size _ ((EnvB.of hE.o).below af.o) (aa.o.low k hlt) (aa.o.rows k hlt) (by omega) (by omega) aR.o b6.o ah.o fun j h1 h2=>⟨zL (aE j h1 (by omega)).1,zL (aE j h1 (by omega)).2⟩);rw[hd,zD rfl]at ad
     have bX:Hid (∀i j,i<n->j<=n->OkQ (Bn k M1 i j)):=fun i j hi hj=>by
      unfold Bn
      split
      .rename_i hc;exact Oc (zL (aE j hc.2 hj).1) (zL (aE j hc.2 hj).2) ah.o
      exact aM.o i j hi hj
     have aO:=zh (aa.o.low k hlt);clear hd aE
     go_wp2_with fail
     refine(kd.o _).q fun w7 ⟨hg,hr⟩=>?_;have az:=zh (af.o.trans (Ba hg aO.o af.o.size))
     have bU:=zh (aa.o.change hlt hg (M':=Bn k M1) (hr.congr fun j hj=>by
      unfold Bn
      by_cases h1:k<=j
      .rw[zD h1,zD ⟨rfl,h1⟩]
      rw[zC h1,zC fun h=>h1 h.2]) (fun i hi en=>by funext j;unfold Bn;rw[zC fun h=>en h.1]))
     have b2:=zh (b1.o.grown hg (b1.o.ne_row (aa.o.rows k hlt)));have bT:=zh (bS.o.grown hg (bS.o.ne_row (aa.o.rows k hlt)));have b8:=zh (b7.o.grown hg (b7.o.ne_row (aa.o.rows k hlt)));clear hg hr e1 e2 e3 e4 v1 v2 kd aa b1 bS b7 af aR b6 aC b0 bR aI aL aO;generalize Bn k M1=M2 at *;go_wp2;clear aG aM ah;refine MX R n k kb vb d M2 w w7 hE.o dh hlt ⟨M2,rfl,bU,bX,az,bT,b2,b8⟩ ?_ ?_
     .intro z4 z5 es et eu ew dl dm dq dr ds dt du dv dw dx dy dz dB dC dD dE dF dG dH dI dJ dK dL dM dN dO wq hq;obtain⟨M3,em,ab,el,ei,ek,ez,eB⟩:=hq
      have di:Hid (AA SQ n (k+1) M0=.ok M3):=by
       show AA SQ n (k+1) M0=.ok M3
       unfold AA;rw[hS.o]
       show CQ SQ n k M=.ok M3
       rw[ad.o,em.o]
      clear bU bX az bT b2 b8;go_wp2
      go_roundw
      case rel=>exact⟨k+1,by omega,by go_num,d,M3,di,ab,el,ei,ek⟩
      case measure=>simp[intOf];omega
     intro es et eu ew dl dm dq dr ds dt du dv dw dx dy dz dB dC dD dE dF dG dH dI dJ dK dL dM dN dO wq bY ag;have aA:=zh (G2 hS.o (show CQ SQ n k M=.error 2 by rw[ad.o,ag]) hlt);replace bY:=zh bY;replace ag:=zh ag;clear bU bX az bT b2 b8;go_wp2;apply hr.o 2
     .exact bY.o
     exact aA.o
  obtain rfl:n=k:=by omega
  go_wp2;apply hx.o;exact hI.o
theorem RS:(prog.info? 39).map (fun i=>(i.zero,i.size,i.bytes))=some (some (.slice none 0 0),1,24):=by kernel_rfl
structure MatP(W:World)(B R n i:Nat)(bl:Nat->Nat)(M:Mx):Prop where
 lt:R<W.heap.size
 hd:∀x,x<i->W.cell? ⟨R,x,none⟩=some (.slice (some ⟨bl x,0,none⟩) (n+1) (n+1))
 hz:∀x,i<=x->x<n->W.cell? ⟨R,x,none⟩=some (.slice none 0 0)
 fr:∀x,W.frozen? ⟨R,x,none⟩=false
 rows:∀x,x<i->RowB W (bl x) (n+1) fun j=>rq (M x j)
 inj:∀x y,x<i->y<i->bl x=bl y->x=y
 ne:∀x,x<i->bl x≠R
 lowR:B<=R
 low:∀x,x<i->B<=bl x
theorem MatP.start(w:World){B:Nat}(hB:B<=w.heap.size)(n:Nat)(M:Mx):MatP (w.alloc (.cells (madeCells #[.slice none 0 0] n) 39)) B w.heap.size n 0 (fun _=>0) M:=by
 have h:=yR w (.cells (madeCells #[(.slice none 0 0:Value)] n) 39);refine⟨by simp,fun x h=>absurd h (by omega),fun x _ hx=>?_,fun x=>by simp only[World.frozen?,h];simp,fun x h=>absurd h (by omega),fun x _ h=>absurd h (by omega),fun x h=>absurd h (by omega),hB,fun x h=>absurd h (by omega)⟩;simp only[World.cell?,h];simp[madeCells,hx];rw[vW];rfl
theorem MatP.done{W:World}{B R n:Nat}{bl:Nat->Nat}{M:Mx}(h:MatP W B R n n bl M):MatW W B R n bl M:=⟨h.lt,h.hd,h.fr,h.rows,h.inj,h.ne,h.lowR,h.low⟩
structure Laid(W W':World)(R i:Nat)(v:Value)(m:Nat)(r:Nat->Raw):Prop where
 os:W'.os=W.os
 tape:W'.tape=W.tape
 output:W'.output=W.output
 size:W.heap.size<W'.heap.size
 hd:∀x,W'.cell? ⟨R,x,none⟩=if x=i then some v else W.cell? ⟨R,x,none⟩
 fr:∀x,W'.frozen? ⟨R,x,none⟩=W.frozen? ⟨R,x,none⟩
 new:RowB W' W.heap.size m r
 block:∀k,k<W.heap.size->k≠R->W'.heap[k]? = W.heap[k]?
theorem Laid.start{W:World}{R i m:Nat}{v u:Value}{r:Nat->Raw}(hc:W.cell? ⟨R,i,none⟩=some u)(hR:R<W.heap.size):Laid W ((W.setCell ⟨R,i,none⟩ v).alloc (.cells (AN m r).toArray 48)) R i v m r:=by
 have d:(W.setCell ⟨R,i,none⟩ v).heap.size=W.heap.size:=by simp
 refine⟨rfl,rfl,rfl,by simp,fun x=>?_,fun x=>?_,?_,fun k hk aa=>?_⟩
 .rw[yI _ _ _ (by rw[d];exact hR)]
  by_cases e:x=i
  .rw[zD e,e];exact yV W _ _ hc
  rw[zC e,yD _ _ _ _ (by intro e2;injection e2 with _ e3;first|exact e e3|exact e e3.symm)]
 .have h1:=yF (w:=W.setCell ⟨R,i,none⟩ v) (w':=(W.setCell ⟨R,i,none⟩ v).alloc (.cells (AN m r).toArray 48)) (a:=⟨R,x,none⟩) (yM _ _ R (by rw[d];exact hR));rw[h1];simp
 .have h:=yR (W.setCell ⟨R,i,none⟩ v) (.cells (AN m r).toArray 48);rw[d]at h;exact h
 exact(yM _ _ k (by rw[d];exact hk)).trans (ze _ _ _ _ aa)
theorem Laid.drew{W W':World}{R i m:Nat}{v:Value}{r:Nat->Raw}(h:Laid W W' R i v m r):Laid W W'.drew R i v m r:=⟨h.os,h.tape,h.output,h.size,h.hd,h.fr,h.new,h.block⟩
theorem Laid.cell{W W':World}{R i m:Nat}{v:Value}{r:Nat->Raw}(h:Laid W W' R i v m r){p:Addr}(hp:p.block<W.heap.size)(d:p.block≠R):W'.cell? p=W.cell? p:=zT (h.block _ hp d)
theorem Nc{W:World}{b o n:Nat}{r:Nat->Raw}(h:∀j,j<n->W.cell? ⟨b,o+j*3,none⟩=some (.bool (r j).1)/\W.cell? ⟨b,o+j*3+1,none⟩=some (.string (r j).2.1)/\W.cell? ⟨b,o+j*3+2,none⟩=some (.string (r j).2.2)):
 ∀t v,(AN n r)[t]? = some v->W.cell? ((⟨b,o,none⟩:Addr).add t)=some v:=by
 intro t v hv;have hl:=AE n r;have ht:t<n*3:=by rw[<-hl];exact(List.getElem?_eq_some_iff.1 hv).1
 have h1:=CJ r (m:=n) (j:=t/3) (by omega) (t%3) (by omega);rw[show t/3*3+t%3=t by omega,hv]at h1;have ha:(⟨b,o,none⟩:Addr).add t=⟨b,o+t,none⟩:=by unfold Addr.add;split<;>simp_all
 rw[ha];obtain⟨c1,c2,c3⟩:=h (t/3) (by omega);have h6:t%3=0\/t%3=1\/t%3=2:=by omega
 rcases h6 with h6|h6|h6
 .rw[h6]at h1;rw[show t=t/3*3 by omega,c1];simpa [ED] using h1.symm
 .rw[h6]at h1;rw[show o+t=o+t/3*3+1 by omega,c2];simpa [ED] using h1.symm
 rw[h6]at h1;rw[show o+t=o+t/3*3+2 by omega,c3];simpa [ED] using h1.symm
theorem RT(n:Nat)(r:Nat->Raw):∀v∈AN n r,v.oneCell'=true:=by
 intro v hv;unfold AN at hv;rw[List.mem_flatMap]at hv;obtain⟨j,_,hj⟩:=hv;simp only[ED,yW,yK,xy]at hj
 rcases hj with rfl|rfl|rfl<;>rfl
theorem Px(n:Nat)(r:Nat->Raw)(z:Raw):AN n r++(AN (n+1) fun _=>z).drop (AN n r).length=AN (n+1) fun j=>if j<n then r j else z:=by
 have h1:=AE n r;have h2:=AE n fun _=>z;rw[BU n fun _=>z,BU,h1,<-h2,List.drop_left,zC (by omega)]
 congr 1
 exact FD fun j hj=>(zD hj).symm
theorem Laid.copy{W W':World}{R i n:Nat}{v:Value}{z:Raw}(h:Laid W W' R i v (n+1) fun _=>z)(hR:R<W.heap.size)(r:Nat->Raw):
 Laid W (W'.setRow W.heap.size (AN n r++(AN (n+1) fun _=>z).drop (AN n r).length).toArray) R i v (n+1) fun j=>if j<n then r j else z:=by
 have aa:R≠W.heap.size:=by omega
 have ho:=setRow_other W' W.heap.size R (AN n r++(AN (n+1) fun _=>z).drop (AN n r).length).toArray aa;refine⟨h.os,h.tape,h.output,by have:=h.size;simpa [World.setRow] using this,fun x=>?_,fun x=>?_,?_,fun k hk d=>?_⟩
 .exact(zT (a:=⟨R,x,none⟩) ho).trans (h.hd x)
 .exact(yF (a:=⟨R,x,none⟩) ho).trans (h.fr x)
 .have:=setRow_heap W' W.heap.size (AN (n+1) fun _=>z).toArray (AN n r++(AN (n+1) fun _=>z).drop (AN n r).length).toArray 48 (0,0) h.new;unfold RowB;rw[this,Px]
 exact(setRow_other W' W.heap.size k _ (by omega)).trans (h.block k hk d)
theorem Laid.store{W W':World}{R i n:Nat}{v:Value}{r:Nat->Raw}(h:Laid W W' R i v (n+1) r)(hR:R<W.heap.size)(x:Raw):
 Laid W ((((W'.setCell ⟨W.heap.size,n*3,none⟩ (.bool x.1)).setCell ⟨W.heap.size,n*3+1,none⟩ (.string x.2.1)).setCell ⟨W.heap.size,n*3+2,none⟩ (.string x.2.2)).drew) R i v (n+1) fun j=>if j=n then x else r j:=by
 have ho:∀k,k≠W.heap.size->(((W'.setCell ⟨W.heap.size,n*3,none⟩ (.bool x.1)).setCell ⟨W.heap.size,n*3+1,none⟩ (.string x.2.1)).setCell ⟨W.heap.size,n*3+2,none⟩ (.string x.2.2)).drew.heap[k]? = W'.heap[k]?:=fun k hk=>
  ((ze _ _ _ _ (by exact hk)).trans (ze _ _ _ _ (by exact hk))).trans (ze _ _ _ _ (by exact hk))
 refine⟨h.os,h.tape,h.output,by have:=h.size;simpa using this,fun y=>?_,fun y=>?_,h.new.set (by omega) x,fun k hk d=>?_⟩
 .exact(zT (a:=⟨R,y,none⟩) (ho R (by omega))).trans (h.hd y)
 .exact(yF (a:=⟨R,y,none⟩) (ho R (by omega))).trans (h.fr y)
 exact(ho k (by omega)).trans (h.block k hk d)
theorem Laid.congr{W W':World}{R i m:Nat}{v:Value}{r s:Nat->Raw}(h:Laid W W' R i v m r)(e:∀j,j<m->r j=s j):Laid W W' R i v m s:=⟨h.os,h.tape,h.output,h.size,h.hd,h.fr,h.new.congr e,h.block⟩
theorem Laid.bel{w W W':World}{R i m:Nat}{v:Value}{r:Nat->Raw}(h:Laid W W' R i v m r)(hb:Below w.heap.size w W)(hR:w.heap.size<=R):Below w.heap.size w W' :=
 ⟨h.os.trans hb.os,h.tape.trans hb.tape,h.output.trans hb.output,by have:=hb.size;have:=h.size;omega,fun k hk=>(h.block k (by have:=hb.size;omega) (by omega)).trans (hb.block k hk)⟩
theorem MatP.step{W W':World}{B R n i:Nat}{bl:Nat->Nat}{M:Mx}(h:MatP W B R n i bl M)(hB:B<=W.heap.size)
 (hL:Laid W W' R i (.slice (some ⟨W.heap.size,0,none⟩) (n+1) (n+1)) (n+1) fun j=>rq (M i j)):MatP W' B R n (i+1) (fun x=>if x=i then W.heap.size else bl x) M:=by
 have d:∀x,x<i->bl x<W.heap.size:=fun x hx=>(h.rows x hx).lt;refine⟨by have:=h.lt;have:=hL.size;omega,fun x hx=>?_,fun x h1 h2=>?_,fun x=>(hL.fr x).trans (h.fr x),fun x hx=>?_,fun x y hx hy e=>?_,fun x hx=>?_,h.lowR,fun x hx=>?_⟩
 .rw[hL.hd]
  by_cases e:x=i
  .rw[zD e,zD e]
  rw[zC e,zC e];exact h.hd x (by omega)
 .rw[hL.hd,zC (by omega)];exact h.hz x (by omega) h2
 .by_cases e:x=i
  .rw[zD e,e];exact hL.new
  rw[zC e];exact(hL.block _ (d x (by omega)) (h.ne x (by omega))).trans (h.rows x (by omega))
 .by_cases e1:x=i
  .by_cases e2:y=i
   .omega
   rw[zD e1,zC e2]at e;have:=d y (by omega);omega
  by_cases e2:y=i
  .rw[zC e1,zD e2]at e;have:=d x (by omega);omega
  rw[zC e1,zC e2]at e;exact h.inj x y (by omega) (by omega) e
 .by_cases e:x=i
  .rw[zD e];have:=h.lt;omega
  rw[zC e];exact h.ne x (by omega)
 by_cases e:x=i
 .rw[zD e];exact hB
 rw[zC e];exact h.low x (by omega)
theorem Uu(w:World)(a:Bool)(b c:ByteArray)(t:TypeId):∀j u,(ED (a,b,c))[j]? = some u->(w.alloc (.cells #[.bool a,.string b,.string c] t)).cell? (Addr.add ⟨w.heap.size,0,none⟩ j)=some u:=by
 intro j u hj
 match j,hj with
 |0,hj=>simp[ED]at hj;subst hj;simp[Addr.add]
 |1,hj=>simp[ED]at hj;subst hj;simp[Addr.add]
 |2,hj=>simp[ED]at hj;subst hj;simp[Addr.add]
 |j+3,hj=>simp[ED]at hj
theorem Lt(x:Raw):∀u∈ED x,u.oneCell'=true:=by
 intro u hu;simp[ED]at hu
 rcases hu with rfl|rfl|rfl<;>rfl
theorem RU{w:World}{B B':Nat}{t:TypeId}{size:Nat}{v:Value}{n:Nat}{xs:List Value}(hb:B<=B')(h:w.ownsRow B' t size v n xs):w.ownsRow B t size v n xs:=by
 obtain⟨h1,h2⟩:=h;refine⟨h1,?_⟩
 rcases h2 with h2|⟨g,cap,cur,hv,hg,hh⟩
 .exact .inl h2
 exact .inr ⟨g,cap,cur,hv,zS hb hg,hh⟩
theorem Py(Aa Ab:Option Addr)(n ca cb:Nat)(la:List RowH)(lb:List Raw)(M0:Mx)(w:World)(hE:Env w)(ha:la.length=n)(af:lb.length=n)(hs:SysIn w Aa Ab la lb)(hv:allV lb=true)(hm:D6 n la=true)(aB:n<=8)
 (ao:∀i (h:i<la.length),la[i].2.2.length=n/\∀j (h2:j<la[i].2.2.length),la[i].2.2[j]=rq (M0 i j))(ap:∀i (h:i<lb.length),lb[i]=rq (M0 i n))(aq:∀i j,i<n->j<=n->OkQ (M0 i j)):
 Calls prog 39 #[.slice Aa n ca,.slice Ab n cb] w (Ju n M0 w):=by
 have kv:=Dr Ab cb lb (nW w n) (hE.below (B9 _ _)) (hs.below (B9 _ _)).mb hs.nb hs.zb;have ka:=fun W (h1:Env W) (h2:Int1 W w.heap.size n) (h3:SysIn W Aa Ab la lb)=>G1 n Aa ca la w.heap.size W h1 h2 h3.ma h3.na h3.za;have a3:=wT (P:=prog) 82 39 (.slice none 0 0) 24 underlying82 RS rfl .i64 .i64 n (by omega) (by omega);rw[hv,af]at kv;rw[hm,ha]at ka;replace kv:=zh kv;replace ka:=zh ka;replace hs:=zh hs;replace hE:=zh hE;replace ao:=zh ao;replace aq:=zh aq;replace ap:=zh ap;replace ha:=zh ha;replace af:=zh af;clear hv hm;go_enter func39,ntmps39
 go_wp2_with fail
 refine kv.o.q fun w1 hb=>?_;have hB:=zh ((B9 w n).trans (hb.mono (by simp)));have hn:=zh ((Int1.new w n).below hb);clear hb
 go_wp2_with fail
 refine(ka.o _ (hE.o.below hB.o) hn.o (hs.o.below hB.o)).q fun w2 hb=>?_;have al:=hB.t hb;have aA:=zh (hn.o.below hb);have c1:=aA.o.cell;have c2:=aA.o.lt;have c3:Hid (Int1 (w2.alloc (.cells (madeCells #[(.slice none 0 0:Value)] n) 39)) w.heap.size n):=aA.o.alloc _;have hP:Hid (MatP (w2.alloc (.cells (madeCells #[(.slice none 0 0:Value)] n) 39)) w.heap.size w2.heap.size n 0 (fun _=>0) M0):=MatP.start w2 al.o.size n M0;have aI:Hid (Below w.heap.size w (w2.alloc (.cells (madeCells #[(.slice none 0 0:Value)] n) 39))):=al.o.alloc al.o.size _;clear hb;go_wp2;obtain⟨R,hR⟩:∃R,R=w2.heap.size:=⟨_,rfl⟩;rw[<-hR]at hP ⊢;have aC:Hid (w.heap.size≠R):=by rw[hR];exact yu c2
 clear a3 c1 c2;replace hR:=zh hR;have ah:=FE 39 underlying39 (n+1) (by omega);rw[show ((n+1:Nat):Int)=(n:Int)+1 by omega]at ah
 go_loopw [43] (fun i wr=>∃(y:Nat)(bl:Nat->Nat),y<=n/\i=.int .i64 (y:Int)/\Hid (MatP wr w.heap.size R n y bl M0)/\Hid (Below w.heap.size w wr)/\Hid (Int1 wr w.heap.size n)) (fun i _=>n-(intOf i).toNat)
 case atStart=>exact⟨0,_,zQ _,rfl,hP,aI,c3⟩
 case round=>
  obtain⟨i,bl,hi,rfl,hQ,d,ab⟩:=hrel
  by_cases hlt:i<n
  .obtain ⟨ba,oa,rfl,aZ,aM⟩:=hs.o.ma (by rw[ha.o];omega);obtain⟨bb,ob,rfl,ax,aN⟩:=hs.o.mb (by rw[af.o];omega);obtain⟨a1,ak⟩:=aM i (by rw[ha.o];exact hlt);obtain⟨b1,b2,b3⟩:=aN i (by rw[af.o];exact hlt);clear aM aN;obtain⟨hl,aR⟩:=ao.o i (by rw[ha.o];exact hlt);obtain⟨bx,ox,aL,a0,aO⟩:=ak (by rw[hl];omega);rw[hl,aL]at a1
   have aP:Hid (∀j,j<n->w.cell? ⟨bx,ox+j*3,none⟩=some (.bool (rq (M0 i j)).1)/\w.cell? ⟨bx,ox+j*3+1,none⟩=some (.string (rq (M0 i j)).2.1)/\w.cell? ⟨bx,ox+j*3+2,none⟩=some (.string (rq (M0 i j)).2.2)):=fun j hj=>by
    have h1:=aO j (by rw[hl];exact hj);rw[aR j (by rw[hl];exact hj)]at h1;exact h1
   rw[ap.o i (by rw[af.o];exact hlt)]at b1 b2 b3;clear hl aR aL aO ak;generalize (la[i]'(by rw[ha.o];exact hlt)).2.1=ci at *;replace a1:=(d.o.cell (p:=⟨ba,oa+i,none⟩) aZ).trans a1;replace b1:=(d.o.cell (p:=⟨bb,ob+i*3,none⟩) ax).trans b1;replace b2:=(d.o.cell (p:=⟨bb,ob+i*3+1,none⟩) ax).trans b2;replace b3:=(d.o.cell (p:=⟨bb,ob+i*3+2,none⟩) ax).trans b3;have i0:(0:Int)<=(i:Int):=by omega
   have i1:(i:Int)<(n:Int):=by omega
   have r1:=hQ.o.hz i (zB _) hlt;have r2:=hQ.o.fr i;have r3:=hQ.o.lt;have n1:=ab.o.cell;have n2:=ab.o.lt
   go_wp2_with fail
   obtain⟨W1,av⟩:∃W,W=(wr.setCell ⟨R,i,none⟩ (.slice (some ⟨wr.heap.size,0,none⟩) (n+1) (n+1))).alloc (.cells (AN (n+1) fun _=>zraw).toArray 48):=⟨_,rfl⟩;rw[<-av];have ag:Hid (Laid wr W1 R i (.slice (some ⟨wr.heap.size,0,none⟩) (n+1) (n+1)) (n+1) fun _=>zraw):=by rw[av];exact Laid.start r1 r3
   have aS:=hQ.o.lowR;have d1:W1.cell? ⟨R,i,none⟩=some (.slice (some ⟨wr.heap.size,0,none⟩) (n+1) (n+1)):=(ag.o.hd i).trans (zD rfl);have a4:=d.o.size;have d2:=(ag.o.cell (p:=⟨ba,oa+i,none⟩) (by show ba<_;omega) (by show ba≠R;omega)).trans a1
   have a2:∀ty,(Builtin.copy_ #[39,39] ty #[.slice (some ⟨wr.heap.size,0,none⟩) (n+1) (n+1),.slice (some ⟨bx,ox,none⟩) n ci]).run prog W1.drew=.ok (goInt n) (W1.drew.setRow wr.heap.size (AN n (fun j=>rq (M0 i j))++(AN (n+1) fun _=>zraw).drop (AN n (fun j=>rq (M0 i j))).length).toArray):=fun ty=>
    MO W1.drew _ _ ty wr.heap.size (n+1) (n+1) ⟨bx,ox,none⟩ n ci (AN (n+1) fun _=>zraw) (AN n fun j=>rq (M0 i j)) underlying39 ag.o.drew.new (AE _ _) (by omega)
     (Nc fun j hj=>by
       obtain⟨k1,k2,k3⟩:=aP.o j hj;have q:∀o,W1.drew.cell? ⟨bx,o,none⟩=w.cell? ⟨bx,o,none⟩:=fun o=>(ag.o.cell (p:=⟨bx,o,none⟩) (by show bx<_;omega) (by show bx≠R;omega)).trans (d.o.cell (p:=⟨bx,o,none⟩) a0);exact⟨(q _).trans k1,(q _).trans k2,(q _).trans k3⟩) (by rw[AE,AE];omega) (RT _ _)
   have aa:=zh (ag.o.drew.copy r3 (fun j=>rq (M0 i j)));clear av ah a1 r1 r2;generalize (AN n (fun j=>rq (M0 i j))++(AN (n+1) fun _=>zraw).drop (AN n (fun j=>rq (M0 i j))).length).toArray=cells2 at *;go_region;obtain⟨W2,aK⟩:∃W,W=W1.drew.setRow wr.heap.size cells2:=⟨_,rfl⟩;rw[<-aK]at aa ⊢;clear aK a2 d1 d2;have d1:W2.cell? ⟨R,i,none⟩=some (.slice (some ⟨wr.heap.size,0,none⟩) (n+1) (n+1)):=(aa.o.hd i).trans (zD rfl);have d2:=aa.o.block w.heap.size (by omega) aC.o;have aW:Hid (Int1 W2 w.heap.size n):=d2.trans ab.o;clear d2 n1;have n1:=aW.o.cell;replace b1:=(aa.o.cell (p:=⟨bb,ob+i*3,none⟩) (by show bb<_;omega) (by show bb≠R;omega)).trans b1;replace b2:=(aa.o.cell (p:=⟨bb,ob+i*3+1,none⟩) (by show bb<_;omega) (by show bb≠R;omega)).trans b2;replace b3:=(aa.o.cell (p:=⟨bb,ob+i*3+2,none⟩) (by show bb<_;omega) (by show bb≠R;omega)).trans b3;obtain⟨z1,z2,z3⟩:=aa.o.new.cell (j:=n) (by omega);rw[zC (by omega)]at z1 z2 z3;have f1:=aa.o.new.frozen (n*3);have f2:=aa.o.new.frozen (n*3+1);have f3:=aa.o.new.frozen (n*3+2);have j0:(0:Int)<=(n:Int):=by omega
   have j1:(n:Int)<(n:Int)+1:=by omega
   have l1:=aa.o.new.lt
   go_wp2_with fail
   go_region
   have ar:=zh ((aa.o.store r3 (rq (M0 i n))).congr (s:=fun j=>rq (M0 i j)) fun j hj=>by
    by_cases e:j=n
    .rw[zD e,e]
    rw[zC e,zD (by omega)])
   have aY:=zh (hQ.o.step a4 ar.o);have aV:=zh (ar.o.bel d.o aS);have aX:=zh ((ar.o.block w.heap.size (by omega) aC.o).trans ab.o);go_wp2
   go_roundw
   case rel=>exact⟨i+1,_,by omega,by go_num,aY,aV,aX⟩
   case measure=>simp[intOf];omega
  obtain rfl:n=i:=by omega
  have aJ:=zh hQ.o.done;clear hQ;go_wp2;have aB:n<=8:=aB;clear hP aI c3 hlt ah;refine MZ R n M0 w _ hE.o aB aC.o ⟨bl,M0,rfl,aJ,aq,d,ab⟩ ?_ ?_
  .intro u4 u5 u9 u10 u11 u12 u13 u14 u15 u16 u17 u74 u75 u76 u77 u78 u79 u80 u81 u82 u83 u84 u85 u86 u87 u88 u89 u90 u91 u92 u93 u94 u95 u96 u97 u98 u99 u100 u101 u102 u103 u104 u105 u106 u107 u108 u109 u110 u111 u112 u113 u114 u115 u116 u117 u118 u119 u120 u121 u122 u123 u124 u125 u126 u127 u128 u129 u130 u131 u132 u133 u134 u135 u136 u137 u138 u139 u140 u141 u142 u143 u144 u145 wq hq;clear aJ d ab;obtain⟨ae,M,hS,hM,hO,d,ab⟩:=hq;have aD:=d.o.size;have am:=ab.o.cell;have an:=ab.o.lt;have au:=hM.o.lt;obtain⟨i0,az,aU⟩:=Option.map_eq_some_iff.1 infoQ;simp only[Prod.mk.injEq]at aU;obtain⟨aF,aG,aH⟩:=aU;go_wp2;replace az:=zh az;replace aF:=zh aF;replace aG:=zh aG;replace aH:=zh aH
   go_loopw [18,148] (fun v i wz=>∃y:Nat,y<=n/\i=.int .i64 (y:Int)/\Hid (wz.ownsRow wq.heap.size 48 3 v y (AN y fun i=>rq (M i n)))/\Hid (Below wq.heap.size wq wz)) (fun _ i _=>n-(intOf i).toNat)
   case atStart=>exact⟨0,zQ _,rfl,yO _ _ _ _,zI _ _⟩
   case round=>
    obtain⟨y,hy,rfl,ai,ad⟩:=hrel
    by_cases hlt9:y<n
    .have g1:=(ad.o.cell (p:=⟨R,y,none⟩) au).trans (hM.o.hd y hlt9);obtain⟨e1,e2,e3⟩:=(hM.o.rows y hlt9).cell (j:=n) (by omega);have e4:=(hM.o.rows y hlt9).lt;replace e1:=(ad.o.cell (p:=⟨ae y,n*3,none⟩) e4).trans e1;replace e2:=(ad.o.cell (p:=⟨ae y,n*3+1,none⟩) e4).trans e2;replace e3:=(ad.o.cell (p:=⟨ae y,n*3+2,none⟩) e4).trans e3;have g2:=(ad.o.cell (p:=⟨w.heap.size,0,none⟩) an).trans am;have g3:(n:Int)<(n:Int)+1:=by omega
     have g4:(0:Int)<=(n:Int):=by omega
     have g5:(0:Int)<=(y:Int):=by omega
     have g6:(y:Int)<(n:Int):=by omega
     have aT:=ad.o.size;clear e4 aD am an au;obtain⟨rv,aj⟩:∃x,x=rq (M y n):=⟨_,rfl⟩;rw[<-aj]at e1 e2 e3;obtain⟨ra,rb,rc⟩:=rv;replace aj:=zh aj;replace e1:wr.cell? ⟨ae y,n*3,none⟩=some (.bool ra):=e1;replace e2:wr.cell? ⟨ae y,n*3+1,none⟩=some (.string rb):=e2;replace e3:wr.cell? ⟨ae y,n*3+2,none⟩=some (.string rc):=e3
     go_wp2_with (at_builtin;refine wpList_append_own _ rfl _ _ 39 rfl wq.heap.size 48 i0 (.agg #[.bool false,.string ⟨#[]⟩,.string ⟨#[]⟩]) 3 40 underlying39 az.o aF.o aG.o aH.o rfl (by decide) u18 y (AN y fun i=>rq (M i n)) rfl (ai.o.alloc _) ⟨wr.heap.size,0,none⟩ 1 1 (ED (ra,rb,rc)) rfl rfl (Uu _ _ _ _ _) (Lt _) (by unfold maxLen;omega) (by omega) (by simp;omega) ?_;intro v2 w2 aE aQ _)
     refine⟨⟨y+1,by omega,by go_num,?_,(ad.o.alloc aT _).grown aQ (by simp;omega) (fun b e=>(ai.o.lt b e).1)⟩,by simp only[intOf];omega⟩;rw[BU,<-aj.o];exact aE
    obtain rfl:n=y:=by omega
    clear am an au;go_wp2;go_ret2;exact⟨d.o.trans (ad.o.mono aD),.inl ⟨M,_,hS.o,rfl,RU aD ai.o⟩⟩
  intro er u9 u10 u11 u12 u13 u14 u15 u16 u17 u74 u75 u76 u77 u78 u79 u80 u81 u82 u83 u84 u85 u86 u87 u88 u89 u90 u91 u92 u93 u94 u95 u96 u97 u98 u99 u100 u101 u102 u103 u104 u105 u106 u107 u108 u109 u110 u111 u112 u113 u114 u115 u116 u117 u118 u119 u120 u121 u122 u123 u124 u125 u126 u127 u128 u129 u130 u131 u132 u133 u134 u135 u136 u137 u138 u139 u140 u141 u142 u143 u144 u145 wq aw ay;replace aw:=zh aw;replace ay:=zh ay;go_ret2;exact⟨aw.o,.inr ⟨er,ay.o,rfl⟩⟩
def mx(l:List (List Rat)):Mx:=fun i j=>(l.getD i []).getD j 0
def XD(n:Nat)(l:List (List Rat))(x:List Rat):Bool :=
 match AA SQ n n (mx l) with
 |.ok M=>(List.range n).map (fun i=>M i n)==x
 |.error _=>false
theorem Oe:XD 1 [[2,1]] [1/2]=true:=by decide +kernel
def vq(x:Raw):Rat:=mkRat (sg x.1 (val x.2.1)) (val x.2.2)
theorem RV(q:Rat):vq (rq q)=q:=by
 show mkRat (sg (decide (q.num<0)) (val (T (some q.num.natAbs)))) (val (T (some q.den)))=q
 have h:∀n,val (T (some n))=n:=fun n=>Bl n;rw[h,h,Cb];exact Rat.mkRat_self q
theorem Ig{x:Raw}(h:FF x=true):rq (vq x)=x/\OkQ (vq x):=by
 obtain⟨q,hq,h1,h2,h3⟩:=H4 h
 have e:x=rq q:=by
  obtain⟨a,b,c⟩:=x;simp only[rq];simp only at h1 h2 h3;rw[h1,h2,h3]
 rw[e,RV];exact⟨rfl,hq⟩
theorem Of{q:Rat}(h:OkQ q):FF (rq q)=true:=AP h
def Hg(A:List (List Raw))(b:List Raw):Mx:=fun i j=>if j=b.length then vq (b.getD i zraw) else vq ((A.getD i []).getD j zraw)
def BA(la:List RowH):List (List Raw):=la.map (·.2.2)
theorem CE(la:List RowH):(BA la).length=la.length:=by simp[BA]
theorem Ih(la:List RowH)(i:Nat)(h:i<la.length):(BA la)[i]'(by simpa [BA] using h)=la[i].2.2:=by simp[BA]
def Pz(n:Nat)(A:List (List Raw)):Bool:=A.all fun r=>rowOk n r
theorem G3(n:Nat)(la:List RowH):Pz n (BA la)=D6 n la:=by
 unfold Pz BA D6;rw[List.all_map];rfl
theorem Jw{n:Nat}{l:List Raw}:rowOk n l=true<->l.length=n/\allV l=true:=by
 unfold rowOk;rw[zq,yG]
theorem Lu{n:Nat}{A:List (List Raw)}:Pz n A=true<->∀i (h:i<A.length),A[i].length=n/\allV A[i]=true:=by
 unfold Pz;rw[wM];constructor
 .intro h i hi;exact Jw.1 (h _ (zN hi))
 intro h x hx;obtain⟨i,hi,rfl⟩:=zg hx;exact Jw.2 (h i hi)
theorem EF{l:List Raw}:allV l=true<->∀i (h:i<l.length),FF l[i]=true:=by
 unfold allV;rw[wM];constructor
 .intro h i hi;exact h _ (zN hi)
 intro h x hx;obtain⟨i,hi,rfl⟩:=zg hx;exact h i hi
def BP(n:Nat)(f:Nat->Rat):List Raw:=(List.range n).map fun i=>rq (f i)
theorem AG(n:Nat)(f:Nat->Rat):(BP n f).length=n:=by simp[BP]
theorem EG(n:Nat)(f:Nat->Rat)(i:Nat)(h:i<(BP n f).length):(BP n f)[i]=rq (f i):=by simp[BP]
theorem Nd{n:Nat}{f g:Nat->Rat}(h:∀i,i<n->f i=g i):BP n f=BP n g:=by
 unfold BP;exact xh fun i hi=>by rw[h i (List.mem_range.1 hi)]
def DD(A:List (List Raw))(b:List Raw):Except Int (List Raw) :=
 if A.length=b.length/\allV b=true/\Pz b.length A=true then
  (if b.length<=8 then (match AA SQ b.length b.length (Hg A b) with|.ok M=>.ok (BP b.length fun i=>M i b.length)|.error e=>.error e) else .error 2)
 else .error 1
theorem FZ{w:World}{base:Nat}{v:Value}{n:Nat}{r:Nat->Raw}(h:w.ownsRow base 48 3 v n (AN n r)):
 ∃A c,v=.slice A n c/\InRow w A ((List.range n).map r):=by
 rcases h.2 with⟨rfl,rfl⟩|⟨g,cap,cur,rfl,hb,hg,h4,h5,h6,h7⟩
 .exact⟨none,0,rfl,fun h0=>absurd h0 (by simp)⟩
 refine⟨some ⟨g,0,none⟩,cap,rfl,fun h0=>⟨g,0,rfl,(Array.getElem?_eq_some_iff.1 hg).1,fun j hj=>?_⟩⟩;have d:j<n:=by simpa using hj
 have hc:=h.cells (g:=g) (by simp[Value.ownBlock]);have aa:∀o,(⟨g,0,none⟩:Addr).add o=⟨g,o,none⟩:=fun o=>by unfold Addr.add;split<;>simp_all
 have h0:=CJ r d 0 (by omega);have h1:=CJ r d 1 (by omega);have h2:=CJ r d 2 (by omega);have c0:=hc (j*3+0) _ h0;have c1:=hc (j*3+1) _ h1;have c2:=hc (j*3+2) _ h2;rw[aa]at c0 c1 c2;simp only[zz,wP,yE];exact⟨c0,c1,c2⟩
theorem El{α:Type}{l:List α}{d:α}{i:Nat}(h:i<l.length):l.getD i d=l[i]:=by
 rw[xL,zj h,Option.getD_some]
theorem Jy(Aa Ab:Option Addr)(ca cb:Nat)(la:List RowH)(lb:List Raw)(w:World)(hE:Env w)(hs:SysIn w Aa Ab la lb)(h1:la.length=lb.length)(h2:allV lb=true)(h3:D6 lb.length la=true)(h8:lb.length<=8):
 Calls prog 39 #[.slice Aa lb.length ca,.slice Ab lb.length cb] w (Ju lb.length (Hg (BA la) lb) w):=by
 have hb:=EF.1 h2
 have d:∀i (hi:i<la.length),la[i].2.2.length=lb.length/\allV la[i].2.2=true:=fun i hi=>by
  have h:i<(BA la).length:=by rw[CE];exact hi
  have:=Lu.1 ((G3 lb.length la).trans h3) i h
  rwa [Ih la i hi]at this
 have hg:∀i (hi:i<la.length),(BA la).getD i []=la[i].2.2:=fun i hi=>by
  rw[El (by rw[CE];exact hi),Ih la i hi]
 refine Py Aa Ab lb.length ca cb la lb (Hg (BA la) lb) w hE h1 rfl hs h2 h3 h8 (fun i hi=>⟨(d i hi).1,fun j hj=>?_⟩) (fun i hi=>?_) (fun i j hi hj=>?_)
 .have aa:j≠lb.length:=by have:=(d i hi).1;omega
  unfold Hg;rw[zC aa,hg i hi,El hj];exact(Ig (EF.1 (d i hi).2 j hj)).1.symm
 .unfold Hg;rw[zD rfl,El hi];exact(Ig (hb i hi)).1.symm
 unfold Hg
 by_cases e:j=lb.length
 .rw[zD e,El hi];exact(Ig (hb i hi)).2
 have h:i<la.length:=by omega
 have aa:j<la[i].2.2.length:=by have:=(d i h).1;omega
 rw[zC e,hg i h,El aa];exact(Ig (EF.1 (d i h).2 j aa)).2
theorem RW(Aa Ab:Option Addr)(ca cb:Nat)(la:List RowH)(lb xs:List Raw)(w:World)(hE:Env w)(hs:SysIn w Aa Ab la lb)(h:DD (BA la) lb=.ok xs):
 Calls prog 39 #[.slice Aa la.length ca,.slice Ab lb.length cb] w fun e w'=>(∃p c,e=.returned (.tuple #[.slice p xs.length c,.int .i64 0])/\InRow w' p xs)/\Below w.heap.size w w':=by
 unfold DD at h;rw[CE,G3]at h
 split at h
 .rename_i hc;obtain⟨h1,h2,h3⟩:=hc
  split at h
  .rename_i h8;have key:=Jy Aa Ab ca cb la lb w hE hs h1 h2 h3 h8;rw[h1];refine key.mono fun e w' ⟨hB,hr⟩=>⟨?_,hB⟩
   rcases hr with⟨M,v,hM,he,d⟩|⟨er,hM,he⟩
   .rw[hM]at h;simp only[Except.ok.injEq]at h;obtain⟨p,c,rfl,aa⟩:=FZ d;refine⟨p,c,?_,by rw[<-h];exact aa⟩;rw[he,<-h,AG]
   rw[hM]at h
   cases h
  cases h
 cases h
theorem RX(Aa Ab:Option Addr)(ca cb:Nat)(la:List RowH)(lb:List Raw)(er:Int)(w:World)(hE:Env w)(hs:SysIn w Aa Ab la lb)(h:DD (BA la) lb=.error er):
 Calls prog 39 #[.slice Aa la.length ca,.slice Ab lb.length cb] w fun e w'=>e=.returned (.tuple #[.slice none 0 0,.int .i64 er])/\Below w.heap.size w w':=by
 unfold DD at h;rw[CE,G3]at h
 split at h
 .rename_i hc;obtain⟨h1,h2,h3⟩:=hc
  split at h
  .rename_i h8;have key:=Jy Aa Ab ca cb la lb w hE hs h1 h2 h3 h8;rw[h1];refine key.mono fun e w' ⟨hB,hr⟩=>⟨?_,hB⟩
   rcases hr with⟨M,v,hM,he,d⟩|⟨aa,hM,he⟩
   .rw[hM]at h
    cases h
   rw[hM]at h;simp only[Except.error.injEq]at h;rw[he,h]
  rename_i h8;simp only[Except.error.injEq]at h;rw[<-h];exact Pt Aa Ab ca cb la lb w hE h1 hs h2 h3 (by omega)
 rename_i hc;simp only[Except.error.injEq]at h;rw[<-h]
 by_cases h1:la.length=lb.length
 .cases h2:allV lb
  .exact RO Aa Ab ca cb la lb w hE h1 hs h2
  cases h3:D6 lb.length la
  .exact RP Aa Ab ca cb la lb w hE h1 hs h2 h3
  exact absurd ⟨h1,h2,h3⟩ hc
 exact Ps Aa Ab ca cb la lb w h1 hs
def InM(n:Nat)(M N:Mx):Prop:=∀i,i<n->∀j,j<=n->M i j=N i j
section
variable {n:Nat} {M N:Mx}
theorem InM.sol(h:InM n M N)(y r:Nat->Rat):Sol n M y r<->Sol n N y r:=by
 have e:∀i,i<n->Aq n (fun j=>M i j*y j)=Aq n (fun j=>N i j*y j):=fun i hi=>As fun j hj=>by rw[h i hi j (by omega)]
 exact⟨fun k i hi=>(e i hi).symm.trans (k i hi),fun k i hi=>(e i hi).trans (k i hi)⟩
theorem InM.rhs(h:InM n M N){y:Nat->Rat}:Sol n M y (fun i=>M i n)<->Sol n N y (fun i=>N i n) :=
 ⟨fun k=>((h.sol y _).1 k).congr fun i hi=>h i hi n (zB n),fun k=>((h.sol y _).2 k).congr fun i hi=>(h i hi n (zB n)).symm⟩
end
def ent(A:List (List Raw))(i j:Nat):Rat:=vq ((A.getD i []).getD j zraw)
def rhs(b:List Raw)(i:Nat):Rat:=vq (b.getD i zraw)
def VS:Except Int (List Raw)->List Raw
 |.ok l=>l
 |.error _=>[]
def XE:Except Int (List Raw)->Int
 |.ok _=>0
 |.error e=>e
end Nt
end
section
open Go.RowKit Go.Shelf
namespace Nt
theorem InRow.at{W:World}{A:Option Addr}{l:List Raw}(h:InRow W A l){j:Nat}(hj:j<l.length):∃b o,A=some ⟨b,o,none⟩/\b<W.heap.size/\W.cell? ⟨b,o+j*3,none⟩=some (.bool l[j].1)/\W.cell? ⟨b,o+j*3+1,none⟩=some (.string l[j].2.1)/\W.cell? ⟨b,o+j*3+2,none⟩=some (.string l[j].2.2):=by
 obtain⟨b,o,e,hl,hc⟩:=h (by omega);exact⟨b,o,e,hl,hc j hj⟩
end Nt
end
section
namespace Sh
open Nt
def IsI(x:Rat):Prop:=∃z:Int,x=(z:Rat)
theorem IsI.zero:IsI 0:=⟨0,by simp⟩
theorem IsI.one:IsI 1:=⟨1,by simp⟩
theorem IsI.add{x y:Rat}(h1:IsI x)(h2:IsI y):IsI (x+y):=by
 obtain⟨a,rfl⟩:=h1;obtain⟨b,rfl⟩:=h2;exact⟨a+b,by simp[Rat.intCast_add]⟩
theorem IsI.mul{x y:Rat}(h1:IsI x)(h2:IsI y):IsI (x*y):=by
 obtain⟨a,rfl⟩:=h1;obtain⟨b,rfl⟩:=h2;exact⟨a*b,by simp[Rat.intCast_mul]⟩
theorem IsI.neg{x:Rat}(h1:IsI x):IsI (-x):=by
 obtain⟨a,rfl⟩:=h1;exact⟨-a,by simp[Rat.intCast_neg]⟩
theorem IsI.sum{n:Nat}{f:Nat->Rat}(h:∀i,i<n->IsI (f i)):IsI (Aq n f):=by
 induction n with
 |zero=>exact IsI.zero
 |succ n ih=>unfold Aq;exact(ih fun i hi=>h i (by omega)).add (h n (by omega))
def skip(i r:Nat):Nat:=if r<i then r else r+1
def sgn:Nat->Rat
 |0=>1
 |n+1=>- sgn n
theorem Uv(n:Nat):IsI (sgn n):=by
 induction n with
 |zero=>exact IsI.one
 |succ n ih=>exact ih.neg
def det:Nat->Mx->Rat
 |0,_=>1
 |n+1,M=>Aq (n+1) fun i=>sgn i*M i 0*det n fun r c=>M (skip i r) (c+1)
theorem DM:∀{n:Nat} {M N:Mx},(∀i j,i<n->j<n->M i j=N i j)->det n M=det n N:=by
 intro n
 induction n with
 |zero=>intros;rfl
 |succ n ih=>
  intro M N h;unfold det;apply As;intro i hi;rw[h i 0 hi (by omega),ih (M:=fun r c=>M (skip i r) (c+1)) (N:=fun r c=>N (skip i r) (c+1))];intro r c hr hc;exact h _ _ (by unfold skip;split<;>omega) (by omega)
def AF(r:Nat)(u:Nat->Rat)(M:Mx):Mx:=fun i=>if i=r then u else M i
theorem Kq{i r:Nat}(h:r≠i):∃t,skip i t=r/\∀s,skip i s=r<->s=t:=by
 by_cases c:r<i
 .refine⟨r,by unfold skip;rw[zD c],fun s=>?_⟩;unfold skip;split<;>omega
 refine⟨r-1,by unfold skip;rw[zC (by omega)];omega,fun s=>?_⟩;unfold skip;split<;>omega
theorem Ds{i:Nat}(u:Nat->Rat)(M:Mx):(fun r c=>AF i u M (skip i r) (c+1))=fun r c=>M (skip i r) (c+1):=by
 funext r c
 unfold AF;rw[zC (by unfold skip;split<;>omega)]
theorem CN{i r t:Nat}(u:Nat->Rat)(M:Mx)(h:∀s,skip i s=r<->s=t):(fun s c=>AF r u M (skip i s) (c+1))=AF t (fun c=>u (c+1)) fun s c=>M (skip i s) (c+1):=by
 funext s c
 unfold AF
 by_cases e:s=t
 .rw[zD ((h s).2 e),zD e]
 rw[zC (fun e2=>e ((h s).1 e2)),zC e]
theorem Og{i r t n:Nat}(h:skip i t=r)(hr:r<n+1)(hi:i<n+1)(_:r≠i):t<n:=by
 unfold skip at h;split at h<;>omega
theorem Ga:∀{n r:Nat} (u v:Nat->Rat) (a b:Rat) (M:Mx),r<n->det n (AF r (fun j=>a*u j+b*v j) M)=a*det n (AF r u M)+b*det n (AF r v M):=by
 intro n
 induction n with
 |zero=>intro r u v a b M h;omega
 |succ n ih=>
  intro r u v a b M hr;unfold det;rw[<-AW,<-AW,<-CB];apply As;intro i hi
  by_cases e:r=i
  .subst e;rw[Ds,Ds,Ds];unfold AF;rw[zD rfl,zD rfl,zD rfl];grind
  obtain⟨t,h1,h2⟩:=Kq e;rw[CN _ _ h2,CN _ _ h2,CN _ _ h2,ih _ _ _ _ _ (Og h1 hr hi e)];unfold AF;rw[zC (fun h=>e h.symm),zC (fun h=>e h.symm),zC (fun h=>e h.symm)];grind
theorem P0{n k:Nat}(f:Nat->Rat)(hk:k+1<n)(h:∀i,i<n->i≠k->i≠k+1->f i=0):Aq n f=f k+f (k+1):=by
 induction n with
 |zero=>omega
 |succ n ih=>
  unfold Aq
  by_cases e:k+1=n
  .subst e;rw[Ce (k:=k) f (by omega) fun i hi d=>h i (by omega) d (by omega)]
  rw[ih (by omega) fun i hi a b=>h i (by omega) a b,h n (by omega) (by omega) (by omega)];grind
theorem Oh:∀{n r:Nat} {M:Mx},r+1<n->(∀j,j<n->M r j=M (r+1) j)->det n M=0:=by
 intro n
 induction n with
 |zero=>intro r M h;omega
 |succ n ih=>
  intro r M hr he;unfold det;rw[P0 (k:=r) _ hr]
  .have e1:det n (fun s c=>M (skip r s) (c+1))=det n (fun s c=>M (skip (r+1) s) (c+1)):=by
    apply DM;intro s c hs hc;unfold skip
    by_cases c1:s<r
    .rw[zD c1,zD (by omega)]
    by_cases c2:s=r
    .subst c2;rw[zC (by omega),zD (by omega)];exact(he _ (by omega)).symm
    rw[zC c1,zC (by omega)]
   rw[e1,he 0 (by omega)]
   show sgn r*_*_+(- sgn r)*_*_=0
   grind
  intro i hi h1 h2;obtain⟨t,k1,k2⟩:=Kq (i:=i) (r:=r) (fun e=>h1 e.symm);obtain⟨t2,l1,l2⟩:=Kq (i:=i) (r:=r+1) (fun e=>h2 e.symm)
  have:t2=t+1:=by
   have a:skip i (t+1)=r+1:=by unfold skip at k1 ⊢;split at k1<;>split<;>omega
   exact((l2 _).1 a).symm
  subst this;have ht:t+1<n:=Og l1 hr hi (fun e=>h2 e.symm);rw[ih (r:=t) ht]
  .grind
  intro j hj;rw[k1,l1];exact he _ (by omega)
theorem DN(r:Nat)(M:Mx):AF r (M r) M=M:=by
 funext i
 unfold AF
 split
 .next h=>rw[h]
 rfl
theorem G4{r s:Nat}(h:r≠s)(u v:Nat->Rat)(M:Mx):AF r u (AF s v M)=AF s v (AF r u M):=by
 funext i
 unfold AF
 by_cases e1:i=r
 .rw[zD e1,zC (by omega),zD e1]
 rw[zC e1]
 by_cases e2:i=s
 .rw[zD e2,zD e2]
 rw[zC e2,zC e2,zC e1]
theorem P3(r:Nat)(u v:Nat->Rat)(M:Mx):AF r u (AF r v M)=AF r u M:=by
 funext i
 unfold AF
 split<;>rfl
theorem RY{n r:Nat}(u v:Nat->Rat)(M:Mx)(hr:r+1<n):det n (AF r u (AF (r+1) v M))=- det n (AF r v (AF (r+1) u M)):=by
 have z:∀x:Nat->Rat,det n (AF r x (AF (r+1) x M))=0:=fun x=>Oh hr fun j _=>by
  unfold AF;rw[zD rfl,zC (by omega),zD rfl]
 have l1:∀x y z:Nat->Rat,det n (AF r (fun j=>1*x j+1*y j) (AF (r+1) z M))=1*det n (AF r x (AF (r+1) z M))+1*det n (AF r y (AF (r+1) z M)):=fun x y z=>Ga x y 1 1 _ (by omega)
 have l2:∀x y z:Nat->Rat,det n (AF r z (AF (r+1) (fun j=>1*x j+1*y j) M))=1*det n (AF r z (AF (r+1) x M))+1*det n (AF r z (AF (r+1) y M)):=fun x y z=>by
  rw[G4 (by omega),G4 (by omega) z x,G4 (by omega) z y];exact Ga x y 1 1 _ hr
 have h:=z fun j=>1*u j+1*v j;rw[l1,l2,l2,z u,z v]at h;grind
theorem RZ:∀{d n r:Nat} {M:Mx},r+1+d<n->(∀j,j<n->M r j=M (r+1+d) j)->det n M=0:=by
 intro d
 induction d with
 |zero=>intro n r M h he;exact Oh h he
 |succ d ih=>
  intro n r M h he
  have h1:M=AF (r+1+d) (M (r+1+d)) (AF (r+1+d+1) (M (r+1+(d+1))) M):=by
   have e1:=DN (r+1+d+1) M;rw[show r+1+(d+1)=r+1+d+1 by omega,e1,DN]
  rw[h1,RY _ _ _ (by omega),ih (r:=r) (by omega)]
  .rfl
  intro j hj;unfold AF;rw[zC (by omega),zC (by omega),zD rfl];exact he j hj
theorem Oi{n r s:Nat}{M:Mx}(hr:r<n)(hs:s<n)(h:r≠s)(he:∀j,j<n->M r j=M s j):det n M=0:=by
 by_cases c:r<s
 .exact RZ (d:=s-r-1) (r:=r) (by omega) fun j hj=>by rw[show r+1+(s-r-1)=s by omega];exact he j hj
 exact RZ (d:=r-s-1) (r:=s) (by omega) fun j hj=>by rw[show s+1+(r-s-1)=r by omega];exact(he j hj).symm
theorem Nf{n r s:Nat}(c:Rat)(M:Mx)(hr:r<n)(hs:s<n)(d:r≠s):det n (AF r (fun j=>M r j+c*M s j) M)=det n M:=by
 have h:=Ga (M r) (M s) 1 c M hr;rw[DN,Oi (M:=AF r (M s) M) hr hs d fun j _=>by unfold AF;rw[zD rfl,zC (fun e=>d e.symm)]]at h;have e:(fun j=>M r j+c*M s j)=fun j=>1*M r j+c*M s j:=by funext j;rw[wG]
 rw[e,h];grind
theorem Ii{n r:Nat}(c:Rat)(M:Mx)(hr:r<n):det n (AF r (fun j=>c*M r j) M)=c*det n M:=by
 have h:=Ga (M r) (M r) c 0 M hr;rw[DN]at h;have e:(fun j=>c*M r j)=fun j=>c*M r j+0*M r j:=by funext j;grind
 rw[e,h];grind
theorem Sa:∀(n:Nat){M:Mx},(∀i j,i<n->j<n->M i j=if i=j then 1 else 0)->det n M=1:=by
 intro n
 induction n with
 |zero=>intros;rfl
 |succ n ih=>
  intro M h;unfold det;rw[Ce (k:=0) _ (by omega) fun i hi d=>by rw[h i 0 hi (by omega),zC d];grind];rw[h 0 0 (by omega) (by omega),zD rfl,ih]
  .show (1:Rat)*1*1=1
   grind
  intro i j hi hj
  show M (i+1) (j+1)=_
  rw[h _ _ (by omega) (by omega)]
  by_cases e:i=j
  .rw[zD e,zD (by omega)]
  rw[zC e,zC (by omega)]
theorem Uw{n r:Nat}(M:Mx)(hr:r<n)(y:Nat->Rat)(R:Nat->Nat->Rat):∀m,det n (AF r (fun j=>Aq m fun l=>y l*R l j) M)=Aq m fun l=>y l*det n (AF r (R l) M):=by
 intro m
 induction m with
 |zero=>
  have h:=Ii 0 (AF r (fun _=>0) M) hr;rw[P3]at h;have e:(fun j=>0*AF r (fun _=>0) M r j)=(fun _=>0):=by funext j;grind
  rw[e]at h
  show det n (AF r (fun _=>0) M)=0
  rw[h];grind
 |succ m ih=>
  show det n (AF r (fun j=>(Aq m fun l=>y l*R l j)+y m*R m j) M)=_
  have e:(fun j=>(Aq m fun l=>y l*R l j)+y m*R m j)=fun j=>1*(Aq m fun l=>y l*R l j)+y m*R m j:=by funext j;grind
  rw[e,Ga _ _ _ _ _ hr,ih]
  show _=(Aq m fun l=>y l*det n (AF r (R l) M))+y m*det n (AF r (R m) M)
  grind
theorem VU{n i:Nat}(M:Mx)(y c:Nat->Rat)(hi:i<n)(h:∀j,j<n->Aq n (fun l=>y l*M l j)=c j):y i*det n M=det n (AF i c M):=by
 have h1:det n (AF i c M)=det n (AF i (fun j=>Aq n fun l=>y l*M l j) M):=by
  apply DM;intro r j _ hj;unfold AF
  split
  .exact(h j hj).symm
  rfl
 rw[h1,Uw M hi,Ce (k:=i) _ hi fun l hl d=>?_,DN];rw[Oi (M:=AF i (M l) M) hi hl (fun e=>d e.symm) fun j _=>by unfold AF;rw[zD rfl,zC d]];grind
def Br:Nat->(Nat->Rat)->Rat
 |0,_=>1
 |n+1,f=>Br n f*f n
theorem GT:∀{n i:Nat} (f:Nat->Rat),i<n+1->Br (n+1) f=f i*Br n fun r=>f (skip i r):=by
 intro n
 induction n with
 |zero => intro i f h;have:i=0:=by omega
          subst this;simp only[Br];grind
 |succ n ih=>
  intro i f h
  by_cases e:i=n+1
  .subst e
   show Br (n+1) f*f (n+1)=_
   have:Br (n+1) (fun r=>f (skip (n+1) r))=Br (n+1) f:=by
    have:∀m,m<=n+1->Br m (fun r=>f (skip (n+1) r))=Br m f:=by
     intro m
     induction m with
     |zero=>intro _;rfl
     |succ m ihm=>intro hm;unfold Br;rw[ihm (by omega)];congr 1;show f (if m<n+1 then m else m+1)=f m;rw[zD (by omega)]
    exact this _ (zB _)
   rw[this];grind
  show Br (n+1) f*f (n+1)=_
  rw[ih f (by omega:i<n+1)]
  show _=f i*(Br n (fun r=>f (skip i r))*f (skip i n))
  rw[show skip i n=n+1 by unfold skip;rw[zC (by omega)]];grind
theorem Kr:∀{n:Nat} {s:Nat->Rat} {M:Mx},(∀i j,i<n->j<n->IsI (s i*M i j))->IsI (Br n s*det n M):=by
 intro n
 induction n with
 |zero=>intro s M _;show IsI (1*1);rw[wG];exact IsI.one
 |succ n ih=>
  intro s M h;unfold det;rw[<-AW];apply IsI.sum;intro i hi;rw[GT s hi];have h1:=ih (s:=fun r=>s (skip i r)) (M:=fun r c=>M (skip i r) (c+1)) fun a b ha hb=>h _ _ (by unfold skip;split<;>omega) (by omega);have h2:=((Uv i).mul (h i 0 hi (by omega))).mul h1;have e:s i*Br n (fun r=>s (skip i r))*(sgn i*M i 0*det n fun r c=>M (skip i r) (c+1))=sgn i*(s i*M i 0)*(Br n (fun r=>s (skip i r))*det n fun r c=>M (skip i r) (c+1)):=by grind
  rw[e];exact h2
theorem Ij{n:Nat}{f g:Nat->Rat}(h:∀i,i<n->f i<=g i):Aq n f<=Aq n g:=by
 induction n with
 |zero=>exact xZ
 |succ n ih=>
  unfold Aq;have h1:=ih fun i hi=>h i (by omega);have h2:=h n (by omega);grind
theorem EH{n k:Nat}(f:Nat->Rat)(hk:k<n):Aq n f=f k+Aq n fun j=>if j=k then 0 else f j:=by
 induction n with
 |zero=>omega
 |succ n ih=>
  show Aq n f+f n=f k+((Aq n fun j=>if j=k then 0 else f j)+(if n=k then 0 else f n))
  by_cases e:k=n
  .subst e;rw[zD rfl,As (g:=f) (f:=fun j=>if j=k then 0 else f j) fun i hi=>zC (by omega)];grind
  rw[zC (by omega),ih (by omega)];grind
theorem Ik{a b:Rat}(h1:a<=0)(h2:0<=b):a*b<=0:=by
 have:=xe (a:=-a) (b:=b) (by grind) h2;grind
def Cm(k:Nat)(M:Mx):Mx:=fun i j=>if i=k then M k j*(M k k)⁻¹ else M i j-M i k*(M k j*(M k k)⁻¹)
structure Shs(n:Nat)(M:Mx)(v:Nat->Rat):Prop where
 le1:∀i,i<n->M i i<=1
 off:∀i j,i<n->j<n->j≠i->M i j<=0
 rhs:∀i,i<n->0<=M i n
 slack:∀i,i<n->M i n<=Aq n (M i)
 pos:∀i,i<n->0<Aq n fun j=>M i j*v j
 vnn:∀j,j<n->0<=v j
theorem Shs.piv{n k:Nat}{M:Mx}{v:Nat->Rat}(h:Shs n M v)(hk:k<n):0<M k k:=by
 have h1:=h.pos k hk;rw[EH _ hk]at h1
 have h2:(Aq n fun j=>if j=k then 0 else M k j*v j)<=0:=by
  have:=Ij (n:=n) (f:=fun j=>if j=k then 0 else M k j*v j) (g:=fun _=>0) fun j hj=>by
   split
   .exact xZ
   next e=>exact Ik (h.off k j hk hj e) (h.vnn j hj)
  rw[CA fun _ _=>rfl]at this;exact this
 by_cases c:0<M k k
 .exact c
 have:=Ik (Rat.not_lt.1 c) (h.vnn k hk);grind
theorem inv_pos{p:Rat}(h:0<p):0<p⁻¹:=Rat.inv_pos.2 h
theorem Shs.step{n k:Nat}{M:Mx}{v:Nat->Rat}(h:Shs n M v)(hk:k<n):Shs n (Cm k M) v:=by
 have hp:=h.piv hk;have hq:=inv_pos hp;have aa:M k k*(M k k)⁻¹=1:=xk _ (by grind);have rowk:∀j,Cm k M k j=(M k k)⁻¹*M k j:=fun j=>by unfold Cm;rw[zD rfl];grind
 have rowi:∀i j,i≠k->Cm k M i j=M i j+(- M i k*(M k k)⁻¹)*M k j:=fun i j e=>by unfold Cm;rw[zC e];grind
 have hf:∀i,i<n->i≠k->0 <=-M i k*(M k k)⁻¹:=fun i hi e=>xe (by have:=h.off i k hi hk (fun a=>e a.symm);grind) (xD hq);refine⟨fun i hi=>?_,fun i j hi hj d=>?_,fun i hi=>?_,fun i hi=>?_,fun i hi=>?_,h.vnn⟩
 .by_cases e:i=k
  .subst e;rw[rowk,vM,aa];exact xZ
  rw[rowi i i e];have h1:=h.le1 i hi;have h2:=Ik (h.off k i hk hi e) (hf i hi e);grind
 .by_cases e:i=k
  .subst e;rw[rowk];have:=Ik (h.off i j hi hj d) (xD hq);grind
  rw[rowi i j e]
  by_cases e2:j=k
  .subst e2;have e3:M i j+-M i j*(M j j)⁻¹*M j j=M i j-M i j*(M j j*(M j j)⁻¹):=by grind
   rw[e3,aa];grind
  have h1:=h.off i j hi hj d;have h2:=Ik (h.off k j hk hj e2) (hf i hi e);grind
 .by_cases e:i=k
  .subst e;rw[rowk];exact xe (xD hq) (h.rhs i hi)
  rw[rowi i n e];have h1:=h.rhs i hi;have h2:=xe (hf i hi e) (h.rhs k hk);grind
 .by_cases e:i=k
  .subst e;rw[rowk,As fun j _=>rowk j,AW];exact yJ (h.slack i hi) (xD hq)
  rw[rowi i n e,As fun j _=>rowi i j e,CB,AW];have h1:=h.slack i hi;have h2:=yJ (h.slack k hk) (hf i hi e);have h3:Aq n (M i)=Aq n fun j=>M i j:=rfl;have h4:Aq n (M k)=Aq n fun j=>M k j:=rfl;rw[h3]at h1;rw[h4]at h2;grind
 by_cases e:i=k
 .subst e;rw[As (g:=fun j=>(M i i)⁻¹*(M i j*v j)) fun j _=>by rw[rowk];grind,AW];exact vI hq (h.pos i hi)
 rw[As (g:=fun j=>M i j*v j+(- M i k*(M k k)⁻¹)*(M k j*v j)) fun j _=>by rw[rowi i j e];grind,CB,AW];have h1:=h.pos i hi;have h2:=xe (hf i hi e) (xD (h.pos k hk));grind
theorem Shs.diag{n i:Nat}{M:Mx}{v:Nat->Rat}(h:Shs n M v)(hi:i<n):0<=M i i/\M i n<=M i i/\∀j,j<n->- M i i<=M i j:=by
 have h1:=h.slack i hi;have h2:=h.rhs i hi;rw[EH _ hi]at h1
 have h3:(Aq n fun j=>if j=i then 0 else M i j)<=0:=by
  have:=Ij (n:=n) (f:=fun j=>if j=i then 0 else M i j) (g:=fun _=>0) fun j hj=>by
   split
   .exact xZ
   next e=>exact h.off i j hi hj e
  rw[CA fun _ _=>rfl]at this;exact this
 refine⟨by grind,by grind,fun j hj=>?_⟩
 by_cases e:j=i
 .subst e;grind
 rw[EH _ hj,zC e]at h1
 have h4:(Aq n fun t=>if t=j then 0 else if t=i then 0 else M i t)<=0:=by
  have:=Ij (n:=n) (f:=fun t=>if t=j then 0 else if t=i then 0 else M i t) (g:=fun _=>0) fun t ht=>by
   split
   .exact xZ
   split
   .exact xZ
   next e=>exact h.off i t hi ht e
  rw[CA fun _ _=>rfl]at this;exact this
 grind
theorem Shs.abs{n i j:Nat}{M:Mx}{v:Nat->Rat}(h:Shs n M v)(hi:i<n)(hj:j<=n):-1<=M i j/\M i j<=1:=by
 obtain⟨h1,h2,h3⟩:=h.diag hi;have h4:=h.le1 i hi
 by_cases e:j=n
 .subst e;have:=h.rhs i hi;grind
 have h5:=h3 j (by omega)
 by_cases e2:j=i
 .subst e2;grind
 have:=h.off i j hi (by omega) e2;grind
structure Mad(n k:Nat)(A M:Mx):Prop where
 unit:Unit n k M
 comb:∀i,i<n->∃y:Nat->Rat,(∀l,k<=l->y l=0)/\∀j,j<=n->M i j=(if i<k then 0 else A i j)+Aq k fun l=>y l*A l j
 dets:∃P:Rat,0<P/\P<=1/\∀K,k<=K->K<=n->det K A=P*det K M
theorem Mad.start(n:Nat)(A:Mx):Mad n 0 A A:=by
 refine⟨fun i j _ h=>absurd h (by omega),fun i _=>⟨fun _=>0,fun _ _=>rfl,fun j _=>?_⟩,1,by decide,by decide,fun K _ _=>(wG _).symm⟩;rw[zC (by omega)];exact(ws _).symm
def GU(k m:Nat)(M:Mx):Mx:=fun i j=>if i=k then M k j*(M k k)⁻¹ else if i<m then M i j-M i k*(M k j*(M k k)⁻¹) else M i j
theorem P4{n k K:Nat}{M:Mx}(hk:k<K)(_:K<=n):∀m,det K (GU k m M)=(M k k)⁻¹*det K M:=by
 intro m
 induction m with
 |zero=>
  rw[<-Ii _ M hk]
  congr 1
  funext i j
  unfold GU AF
  by_cases e:i=k
  .rw[zD e,zD e,vM]
  rw[zC e,zC (by omega),zC e]
 |succ m ih=>
  rw[<-ih]
  by_cases e:m=k
  .congr 1
   funext i j
   unfold GU
   by_cases e2:i=k
   .rw[zD e2,zD e2]
   rw[zC e2,zC e2]
   by_cases c:i<m
   .rw[zD (by omega),zD c]
   rw[zC (by omega),zC c]
  by_cases c:m<K
  .rw [<-Nf (r:=m) (s:=k) (- M m k) (GU k m M) c hk e]
   congr 1
   funext i j
   unfold AF
   by_cases e2:i=m
   .subst e2;unfold GU;simp only[zC e,zC (xV _),zD (zo _)];simp only[wm];grind
   rw[zC e2];unfold GU
   by_cases e3:i=k
   .rw[zD e3,zD e3]
   rw[zC e3,zC e3]
   by_cases c2:i<m
   .rw[zD (by omega),zD c2]
   rw[zC (by omega),zC c2]
  apply DM;intro i j hi hj;unfold GU
  by_cases e3:i=k
  .rw[zD e3,zD e3]
  rw[zC e3,zC e3,zD (by omega),zD (by omega)]
theorem P5{n k K:Nat}{M:Mx}(hk:k<K)(hK:K<=n):det K (Cm k M)=(M k k)⁻¹*det K M:=by
 rw[<-P4 (n:=n) hk hK K];apply DM;intro i j hi _;unfold GU Cm
 by_cases e:i=k
 .rw[zD e,zD e]
 rw[zC e,zC e,zD hi]
theorem Mad.step{n k:Nat}{A M:Mx}{v:Nat->Rat}(h:Mad n k A M)(hs:Shs n M v)(hk:k<n):Mad n (k+1) A (Cm k M):=by
 have hp:=hs.piv hk;have d:M k k*(M k k)⁻¹=1:=xk _ (by grind);have hz:=h.unit.zeros hk (zB _);refine⟨fun i j hi hj=>?_,fun i hi=>?_,?_⟩
 .unfold Cm
  by_cases e:j=k
  .subst e
   by_cases e2:i=j
   .rw[zD e2,zD e2,d]
   rw[zC e2,zC e2,d];grind
  rw[hz j (by omega)]
  by_cases e2:i=k
  .rw[zD e2,zC (by omega)];grind
  rw[zC e2,h.unit i j hi (by omega)];grind
 .obtain ⟨yk,k1,k2⟩:=h.comb k hk;have k2:∀j,j<=n->M k j=A k j+Aq k fun l=>yk l*A l j:=fun j hj=>by have:=k2 j hj;rwa [zC (xV _)]at this
  by_cases e:i=k
  .subst e;refine⟨fun l=>if l=i then (M i i)⁻¹ else (M i i)⁻¹*yk l,fun l hl=>?_,fun j hj=>?_⟩
   .dsimp only;rw[zC (by omega),k1 l (by omega)];grind
   rw[zD (by omega)];unfold Cm;rw[zD rfl]
   show _=0+((Aq i fun l=>(if l=i then (M i i)⁻¹ else (M i i)⁻¹*yk l)*A l j)+(if i=i then (M i i)⁻¹ else (M i i)⁻¹*yk i)*A i j)
   rw[zD rfl,As (g:=fun l=>(M i i)⁻¹*(yk l*A l j)) fun l hl=>by rw[zC (by omega)];grind,AW];have:=k2 j hj;grind
  obtain⟨y,h1,h2⟩:=h.comb i hi;refine⟨fun l=>if l=k then-M i k*(M k k)⁻¹ else y l+(- M i k*(M k k)⁻¹)*yk l,fun l hl=>?_,fun j hj=>?_⟩
  .dsimp only;rw[zC (by omega),k1 l (by omega),h1 l (by omega)];grind
  have e1:(if i<k+1 then 0 else A i j)=(if i<k then 0 else A i j):=by
   by_cases c:i<k
   .rw[zD c,zD (by omega)]
   rw[zC c,zC (by omega)]
  rw[e1];unfold Cm;rw[zC e]
  show _=_+((Aq k fun l=>(if l=k then-M i k*(M k k)⁻¹ else y l+(- M i k*(M k k)⁻¹)*yk l)*A l j)+(if k=k then-M i k*(M k k)⁻¹ else y k+(- M i k*(M k k)⁻¹)*yk k)*A k j)
  rw[zD rfl,As (g:=fun l=>y l*A l j+(- M i k*(M k k)⁻¹)*(yk l*A l j)) fun l hl=>by rw[zC (by omega)];grind,CB,AW];have a:=k2 j hj;have b:=h2 j hj;grind
 obtain⟨P,p1,p2,p3⟩:=h.dets;refine⟨P*M k k,vI p1 hp,?_,fun K h1 h2=>?_⟩
 .have h1:=hs.le1 k hk;have h2:=yJ h1 (xD p1);grind
 rw[p3 K (by omega) h2,P5 (n:=n) (by omega) h2,Rat.mul_assoc,<-Rat.mul_assoc (M k k),d,wG]
theorem Mad.det_k{n k:Nat}{A M:Mx}(h:Mad n k A M)(hk:k<=n):0<det k A/\det k A<=1:=by
 obtain⟨P,p1,p2,p3⟩:=h.dets;have:=p3 k (zB _) hk;rw[Sa k fun i j hi hj=>h.unit i j (by omega) hj,Rat.mul_one]at this;rw[this];exact⟨p1,p2⟩
theorem Em(c:Rat)(n:Nat):Br n (fun _=>c)=c^n:=by
 induction n with
 |zero=>exact(Rat.pow_zero c).symm
 |succ n ih=>rw[Br,ih,vZ]
theorem Ks{n:Nat}{f g:Nat->Rat}(h:∀i,i<n->f i=g i):Br n f=Br n g:=by
 induction n with
 |zero=>rfl
 |succ n ih=>rw[Br,Br,ih fun i hi=>h i (by omega),h n (by omega)]
theorem Lw{n k l:Nat}{A:Mx}{c:Rat}(hA:∀i j,i<n->j<n->IsI (c*A i j))(hk:k<=n)(y r:Nat->Rat)(t:Rat)(hl:l<k)(ht:∀j,j<k->IsI (t*r j))(h:∀j,j<k->(Aq k fun l=>y l*A l j)=r j):
 IsI (y l*(c^(k-1)*t*det k A)):=by
 have h1:=VU A y r hl h
 have h2:=Kr (n:=k) (s:=fun i=>if i=l then t else c) (M:=AF l r A) fun i j hi hj=>by
  unfold AF
  by_cases e:i=l
  .rw[zD e,zD e];exact ht j hj
  rw[zC e,zC e];exact hA i j (by omega) (by omega)
 have h3:Br k (fun i=>if i=l then t else c)=c^(k-1)*t:=by
  obtain⟨m,rfl⟩:∃m,k=m+1:=⟨k-1,by omega⟩;rw[GT _ hl,zD rfl,Ks (g:=fun _=>c) fun i hi=>zC (by unfold skip;split<;>omega),Em,wQ,vM]
 rw[h3,<-h1]at h2;have e:c^(k-1)*t*(y l*det k A)=y l*(c^(k-1)*t*det k A):=by grind
 rwa [e]at h2
theorem Lx(c:Rat){k:Nat}(h:0<k):c^(k-1)*c=c^k:=by
 obtain⟨m,rfl⟩:∃m,k=m+1:=⟨k-1,by omega⟩;rw[wQ,vZ]
theorem Mad.int_top{n k i j:Nat}{A M:Mx}{c D:Rat}(h:Mad n k A M)(hk:k<=n)(hA:∀i j,i<n->j<n->IsI (c*A i j))(hb:∀i,i<n->IsI (c*D*A i n))(hD:IsI D)(hi:i<k)(hj:j<=n):IsI (c^k*det k A*D*M i j):=by
 obtain⟨y,h1,h2⟩:=h.comb i (by omega)
 have h3:∀l,l<k->IsI (y l*(c^(k-1)*1*det k A)):=fun l hl=>Lw hA hk y (fun j=>if i=j then 1 else 0) 1 hl (fun j _=>by split;(· rw[wG];exact IsI.one);(· rw[wG];exact IsI.zero)) fun j hj=>by
  have:=h2 j (by omega);rw[h.unit i j (by omega) hj,zD hi,Rat.zero_add]at this;exact this.symm
 rw[h2 j hj,zD hi,Rat.zero_add,<-AW];apply IsI.sum;intro l hl;have h4:=h3 l hl
 have h5:IsI (c*D*A l j):=by
  by_cases e:j=n
  .rw[e];exact hb l (by omega)
  have:=(hA l j (by omega) (by omega)).mul hD;have e2:c*A l j*D=c*D*A l j:=by grind
  rwa [e2]at this
 have h6:=h4.mul h5;have e:y l*(c^(k-1)*1*det k A)*(c*D*A l j)=c^(k-1)*c*det k A*D*(y l*A l j):=by grind
 rw[e,Lx c (by omega)]at h6;exact h6
theorem Mad.int_all{n k i j:Nat}{A M:Mx}{c D:Rat}(h:Mad n k A M)(hk:k<=n)(hc:IsI c)(hA:∀i j,i<n->j<n->IsI (c*A i j))(hb:∀i,i<n->IsI (c*D*A i n))(hD:IsI D)(hi:i<n)(hj:j<=n):IsI (c^k*det k A*(c*D)*M i j):=by
 by_cases hik:i<k
 .have h1:=(h.int_top hk hA hb hD hik hj).mul hc;have e:c^k*det k A*D*M i j*c=c^k*det k A*(c*D)*M i j:=by grind
  rwa [e]at h1
 obtain⟨y,h1,h2⟩:=h.comb i hi
 have h3:∀l,l<k->IsI (y l*(c^(k-1)*c*det k A)):=fun l hl=>Lw hA hk y (fun j=>- A i j) c hl (fun j hj=>by
  have:=(hA i j hi (by omega)).neg;have e:-(c*A i j)=c*(- A i j):=by grind
  rwa [e]at this) fun j hj=>by
  have:=h2 j (by omega);rw[h.unit i j hi hj,zC (by omega),zC hik]at this;grind
 have h5:∀l,l<n->IsI (c*D*A l j):=fun l hl=>by
  by_cases e:j=n
  .rw[e];exact hb l hl
  have:=(hA l j hl (by omega)).mul hD;have e2:c*A l j*D=c*D*A l j:=by grind
  rwa [e2]at this
 have d:IsI (c^k*det k A):=by
  have:=Kr (n:=k) (s:=fun _=>c) (M:=A) fun i j hi hj=>hA i j (by omega) (by omega)
  rwa [Em]at this
 rw[h2 j hj,zC hik];have e:c^k*det k A*(c*D)*(A i j+Aq k fun l=>y l*A l j)=c^k*det k A*(c*D*A i j)+(c^k*det k A*(c*D))*Aq k fun l=>y l*A l j:=by grind
 rw[e,<-AW];refine(d.mul (h5 i hi)).add (IsI.sum fun l hl=>?_);have h6:=(h3 l hl).mul (h5 l (by omega));have e:y l*(c^(k-1)*c*det k A)*(c*D*A l j)=c^(k-1)*c*det k A*(c*D)*(y l*A l j):=by grind
 rwa [e,Lx c (by omega)]at h6
theorem Ly{S:Rat->Bool}{n k:Nat}{M:Mx}:∀{m:Nat},m<=n ->
 (∀i,i<m->i≠k->∀j,k<=j->j<=n->S (M i k)=true/\S (M k j)=true/\S (M i j)=true/\S (M i k*M k j)=true) ->
 AL S n k m M=some fun i j=>if i<m/\i≠k/\k<=j then M i j-M i k*M k j else M i j:=by
 intro m
 induction m with
 |zero=>
  intro _ _;unfold AL
  congr 1
 |succ m ih=>
  intro hm hS;unfold AL;rw[ih (by omega) fun i hi=>hS i (by omega)];rw[Option.bind_some];unfold BL;have e1:∀j,(if m<m/\m≠k/\k<=j then M m j-M m k*M k j else M m j)=M m j:=fun j=>zC fun h=>absurd h.1 (xV _);have e2:∀j,(if k<m/\k≠k/\k<=j then M k j-M k k*M k j else M k j)=M k j:=fun j=>zC fun h=>h.2.1 rfl
  by_cases c:m=k\/M m k=0
  .rw [zD (by dsimp only;rw[e1];exact c)]
   congr 1
   funext i j
   by_cases e:i=m
   .subst e;rw[e1]
    by_cases d:i≠k/\k<=j
    .rw[zD ⟨by omega,d⟩]
     rcases c with c|c
     .exact absurd c d.1
     rw[c];grind
    rw[zC fun h=>d h.2]
   by_cases d:i<m/\i≠k/\k<=j
   .rw[zD d,zD ⟨by omega,d.2⟩]
   rw[zC d,zC fun h=>d ⟨by omega,h.2⟩]
  have aa:m≠k:=fun e=>c (.inl e);rw[zC (by dsimp only;rw[e1];exact c),zD]
  .congr 1
   funext i j
   unfold Dq;dsimp only
   by_cases e:i=m
   .subst e;rw[e1,e1,e2]
    by_cases d:k<=j
    .rw[zD ⟨rfl,d⟩,zD ⟨by omega,aa,d⟩]
    rw[zC fun h=>d h.2,zC fun h=>d h.2.2]
   rw[zC fun h=>e h.1]
   by_cases d:i<m/\i≠k/\k<=j
   .rw[zD d,zD ⟨by omega,d.2⟩]
   rw[zC d,zC fun h=>d ⟨by omega,h.2⟩]
  rw[Fc];intro j h1 h2;rw[e1,e1,e2];exact hS m (by omega) aa j h1 h2
theorem Ng{n k:Nat}{M:Mx}(hk:k<n)(h:M k k≠0):CP n k M (n-k)=some k :=
 Ic (by omega) (by omega) hk h fun i a b=>by omega
theorem P6(k:Nat)(M:Mx):By k k M=M:=by
 funext i
 unfold By
 split
 .next h=>rw[h]
 rfl
theorem Lz{S:Rat->Bool}{n k:Nat}{M:Mx}(hk:k<n)(hu:Unit n k M)(h0:M k k≠0)
 (h1:∀i j,i<n->j<=n->S (M i j)=true)(h2:∀j,j<=n->S (Cm k M k j)=true)(h3:∀i j,i<n->j<=n->S (M i k*Cm k M k j)=true):∃M',CQ S n k M=.ok M'/\∀i j,i<n->M' i j=Cm k M i j:=by
 have ad:M k k*(M k k)⁻¹=1:=xk _ h0;have hz:=hu.zeros hk (zB _)
 have aa:∀j,Bn k M k j=Cm k M k j:=fun j=>by
  unfold Bn Cm;rw[zD rfl]
  by_cases c:k<=j
  .rw[zD ⟨rfl,c⟩,wW]
  rw[zC fun h=>c h.2,hz j (by omega)];grind
 have d:∀i j,i≠k->Bn k M i j=M i j:=fun i j e=>by unfold Bn;rw[zC fun h=>e h.1]
 have he:=Ly (S:=S) (n:=n) (k:=k) (M:=Bn k M) (zB n) fun i hi ab j _ hj=>by
  rw[d i k ab,aa,d i j ab];exact⟨h1 i k hi (by omega),h2 j hj,h1 i j hi hj,h3 i j hi hj⟩
 refine⟨fun i j=>if i<n/\i≠k/\k<=j then Bn k M i j-Bn k M i k*Bn k M k j else Bn k M i j,?_,?_⟩
 .unfold CQ;rw[Ng hk h0];dsimp only;rw[P6,zD,he];rw[Fb];intro j _ hj;exact⟨h1 k j hk hj,h1 k k hk (by omega)⟩
 intro i j hi
 by_cases e:i=k
 .subst e;dsimp only;rw[zC fun h=>h.2.1 rfl,aa]
 unfold Cm;dsimp only;rw[zC e]
 by_cases c:k<=j
 .rw[zD ⟨hi,e,c⟩,d i j e,d i k e,aa];unfold Cm;rw[zD rfl]
 rw[zC fun h=>c h.2.2,d i j e,hz j (by omega)];grind
def Fit(B:Nat)(x:Rat):Prop:=-1<=x/\x<=1/\∃d:Nat,0<d/\d<=B/\IsI ((d:Rat)*x)
theorem Shs.congr{n:Nat}{M M':Mx}{v:Nat->Rat}(h:Shs n M v)(e:∀i j,i<n->M' i j=M i j):Shs n M' v:=by
 refine⟨fun i hi=>by rw[e i i hi];exact h.le1 i hi,fun i j hi hj hn=>by rw[e i j hi];exact h.off i j hi hj hn,fun i hi=>by rw[e i n hi];exact h.rhs i hi,fun i hi=>?_,fun i hi=>?_,h.vnn⟩
 .rw[e i n hi,As (f:=M' i) (g:=M i) fun j _=>e i j hi];exact h.slack i hi
 rw[As (g:=fun j=>M i j*v j) fun j _=>by rw[e i j hi]];exact h.pos i hi
theorem Mad.congr{n k:Nat}{A M M':Mx}(h:Mad n k A M)(e:∀i j,i<n->M' i j=M i j):Mad n k A M':=by
 refine⟨fun i j hi hj=>by rw[e i j hi];exact h.unit i j hi hj,fun i hi=>?_,?_⟩
 .obtain⟨y,h1,h2⟩:=h.comb i hi;exact⟨y,h1,fun j hj=>by rw[e i j hi];exact h2 j hj⟩
 obtain⟨P,h1,h2,h3⟩:=h.dets;exact⟨P,h1,h2,fun K a b=>by rw[h3 K a b,DM fun i j hi _=>(e i j (by omega)).symm]⟩
theorem IsI.nat(n:Nat):IsI (n:Rat):=⟨n,(vB n).symm⟩
theorem IsI.toNat{x:Rat}(h:IsI x)(h0:0<x):∃d:Nat,x=(d:Rat)/\0<d:=by
 obtain⟨z,rfl⟩:=h
 have h1:0<z:=by
  have:((0:Int):Rat)<(z:Rat):=h0;exact Rat.intCast_lt_intCast.1 this
 refine⟨z.toNat,?_,by omega⟩;have:((z.toNat:Nat):Int)=z:=by omega
 rw[<-vB,this]
theorem Nh{a b:Nat}(h:(a:Rat)<=(b:Rat)):a<=b:=Rat.natCast_le_natCast.1 h
theorem GV{c:Rat}(h:0<c)(n:Nat):0<c^n:=by
 induction n with
 |zero=>rw[Rat.pow_zero];decide
 |succ n ih=>rw[vZ];exact vI ih h
structure Sys(n c D:Nat)(A:Mx)(v:Nat->Rat):Prop where
 shs:Shs n A v
 cp:0<c
 dp:0<D
 lhs:∀i j,i<n->j<n->IsI ((c:Rat)*A i j)
 rgt:∀i,i<n->IsI ((c:Rat)*(D:Rat)*A i n)
theorem Sys.det_nat{n c D k:Nat}{A M:Mx}{v:Nat->Rat}(h:Sys n c D A v)(hm:Mad n k A M)(hk:k<=n):∃d:Nat,0<d/\d<=c^k/\(c:Rat)^k*det k A=(d:Rat):=by
 obtain⟨d1,d2⟩:=hm.det_k hk;have hc:0<(c:Rat):=by have:=h.cp;exact Rat.natCast_pos.2 this
 have hI:IsI ((c:Rat)^k*det k A):=by
  have:=Kr (n:=k) (s:=fun _=>(c:Rat)) (M:=A) fun i j hi hj=>h.lhs i j (by omega) (by omega)
  rwa [Em]at this
 obtain⟨d,e1,e2⟩:=hI.toNat (vI (GV hc k) d1);refine⟨d,e2,Nh ?_,e1⟩;rw[<-e1,Rat.natCast_pow];have:=yJ d2 (xD (GV hc k));grind
theorem Sys.fit{n c D k i j:Nat}{A M:Mx}{v:Nat->Rat}(h:Sys n c D A v)(hm:Mad n k A M)(hs:Shs n M v)(hk:k<=n)(hi:i<n)(hj:j<=n):Fit (c^(n+1)*D) (M i j):=by
 obtain⟨a1,a2⟩:=hs.abs hi hj;obtain⟨d,d1,d2,d3⟩:=h.det_nat hm hk;refine⟨a1,a2,d*(c*D),vH d1 (vH h.cp h.dp),?_,?_⟩
 .have h1:d<=c^n:=zS d2 (zi h.cp hk);rw[yY,yf];exact yv _ h1
 have:=hm.int_all hk (IsI.nat c) h.lhs h.rgt (IsI.nat D) hi hj;rw[d3]at this
 simpa [xr] using this
theorem Sys.solve{S:Rat->Bool}{n c D:Nat}{A:Mx}{v:Nat->Rat}(h:Sys n c D A v)(hS:∀x,Fit ((c^(n+1)*D)*(c^(n+1)*D)) x->S x=true):
 ∀k,k<=n->∃M,AA S n k A=.ok M/\Shs n M v/\Mad n k A M:=by
 have hB:0<c^(n+1)*D:=vH (vG h.cp) h.dp
 have aa:∀x,Fit (c^(n+1)*D) x->S x=true:=fun x hx=>by
  obtain⟨a1,a2,d,d1,d2,d3⟩:=hx;refine hS x ⟨a1,a2,d,d1,zS d2 ?_,d3⟩;exact Nat.le_mul_of_pos_left _ hB
 have ad:∀x y,Fit (c^(n+1)*D) x->Fit (c^(n+1)*D) y->S (x*y)=true:=fun x y hx hy=>by
  obtain⟨a1,a2,d,d1,d2,d3⟩:=hx;obtain⟨b1,b2,e,e1,e2,e3⟩:=hy
  have ab:x*y<=1/\-1<=x*y:=by
   have p1:=xe (a:=1-x) (b:=1-y) (by grind) (by grind);have p2:=xe (a:=1+x) (b:=1+y) (by grind) (by grind);have p3:=xe (a:=1-x) (b:=1+y) (by grind) (by grind);have p4:=xe (a:=1+x) (b:=1-y) (by grind) (by grind);constructor
   .grind
   grind
  refine hS _ ⟨ab.2,ab.1,d*e,vH d1 e1,wX d2 e2,?_⟩;have:=d3.mul e3;have e:(d:Rat)*x*((e:Rat)*y)=((d*e:Nat):Rat)*(x*y):=by rw[xr];grind
  rwa [e]at this
 intro k
 induction k with
 |zero=>intro _;exact⟨A,rfl,h.shs,Mad.start n A⟩
 |succ k ih=>
  intro hk;obtain⟨M,m1,m2,m3⟩:=ih (by omega);have hp:=m2.piv (show k<n by omega);have s1:=m2.step (show k<n by omega);have s2:=m3.step m2 (show k<n by omega);have f1:∀i j,i<n->j<=n->Fit (c^(n+1)*D) (M i j):=fun i j hi hj=>h.fit m3 m2 (by omega) hi hj;have f2:∀i j,i<n->j<=n->Fit (c^(n+1)*D) (Cm k M i j):=fun i j hi hj=>h.fit s2 s1 hk hi hj;obtain⟨M',e1,e2⟩:=Lz (S:=S) (show k<n by omega) m3.unit (by grind) (fun i j hi hj=>aa _ (f1 i j hi hj)) (fun j hj=>aa _ (f2 k j (by omega) hj)) fun i j hi hj=>ad _ _ (f1 i k hi (by omega)) (f2 k j (by omega) hj);refine⟨M',?_,s1.congr fun i j hi=>e2 i j hi,s2.congr fun i j hi=>e2 i j hi⟩;unfold AA;rw[m1];exact e1
theorem Sys.result{S:Rat->Bool}{n c D:Nat}{A:Mx}{v:Nat->Rat}(h:Sys n c D A v)(hS:∀x,Fit ((c^(n+1)*D)*(c^(n+1)*D)) x->S x=true):
 ∃M,AA S n n A=.ok M/\(∀y,Sol n A y (fun i=>A i n)<->∀i,i<n->y i=M i n)/\(∀i,i<n->0<=M i n/\M i n<=1)/\∃d:Nat,0<d/\d<=c^n/\∀i,i<n->IsI ((d*D:Nat)*M i n):=by
 obtain⟨M,m1,m2,m3⟩:=h.solve hS n (zB n);obtain⟨d,d1,d2,d3⟩:=h.det_nat m3 (zB n);refine⟨M,m1,(VR m1).1,fun i hi=>⟨m2.rhs i hi,(m2.abs hi (zB n)).2⟩,d,d1,d2,fun i hi=>?_⟩;have:=m3.int_top (zB n) h.lhs h.rgt (IsI.nat D) hi (zB n);rw[d3]at this;rw[xr];exact this
end Sh
end
section
namespace Sh
open Nt Ci
abbrev Lp:=Nat×Nat×Rat
def AB(p:Nat)(f:Nat->Rat):List Lp->Rat
 | []=>0
 |x::l=>(if x.1=p then x.2.2*f x.2.1 else 0)+AB p f l
theorem En{p:Nat}{f g:Nat->Rat}{L:List Lp}(h:∀x,x∈L->x.1=p->f x.2.1=g x.2.1):AB p f L=AB p g L:=by
 induction L with
 |nil=>rfl
 |cons x l ih=>
  unfold AB;rw[ih fun y hy=>h y (zY _ hy)]
  by_cases e:x.1=p
  .rw[zD e,zD e,h x zf e]
  rw[zC e,zC e]
theorem Il(p:Nat)(f g:Nat->Rat)(L:List Lp):AB p (fun h=>f h+g h) L=AB p f L+AB p g L:=by
 induction L with
 |nil=>exact(ws 0).symm
 |cons x l ih=>unfold AB;rw[ih];split<;>grind
theorem Im(p:Nat)(c:Rat)(f:Nat->Rat)(L:List Lp):AB p (fun h=>c*f h) L=c*AB p f L:=by
 induction L with
 |nil=>exact(Rat.mul_zero c).symm
 |cons x l ih=>unfold AB;rw[ih];split<;>grind
theorem Sb(p:Nat)(f g:Nat->Rat)(L:List Lp):AB p (fun h=>f h-g h) L=AB p f L-AB p g L:=by
 induction L with
 |nil=>show (0:Rat)=0-0;grind
 |cons x l ih=>unfold AB;rw[ih];split<;>grind
theorem DO{p:Nat}{f:Nat->Rat}{L:List Lp}(h:∀x,x∈L->x.1=p->f x.2.1=0):AB p f L=0:=by
 have h1:=Im p 0 f L;rw[En (g:=fun h=>0*f h) fun x hx e=>by rw[h x hx e,vN],h1,vN]
theorem Sc(p n:Nat)(g:Nat->Nat->Rat)(L:List Lp):Aq n (fun j=>AB p (g j) L)=AB p (fun h=>Aq n fun j=>g j h) L:=by
 induction n with
 |zero=>exact(DO fun _ _ _=>rfl).symm
 |succ n ih=>
  show (Aq n fun j=>AB p (g j) L)+AB p (g n) L=_
  rw[ih,<-Il];rfl
structure Caps(n:Nat)(L:List Lp):Prop where
 lt:∀x,x∈L->x.1<n/\x.2.1<n
 whole:∀x,x∈L->IsI (6000*x.2.2)
 pos:∀x,x∈L->0<x.2.2
 le1:∀p,AB p (fun _=>1) L<=1
def Ai(L:List Lp):List (Nat×Nat):=L.map fun x=>(x.2.1,x.1)
theorem Kt{p:Nat}{f g:Nat->Rat}{L:List Lp}(hp:∀x,x∈L->0<x.2.2)(h:∀x,x∈L->x.1=p->f x.2.1<=g x.2.1):AB p f L<=AB p g L:=by
 induction L with
 |nil=>exact xZ
 |cons x l ih=>
  unfold AB;have h1:=ih (fun y hy=>hp y (zY _ hy)) fun y hy=>h y (zY _ hy)
  by_cases e:x.1=p
  .rw[zD e,zD e];have h2:=yJ (h x zf e) (xD (hp x zf));grind
  rw[zC e,zC e];grind
theorem Gb{p:Nat}{f g:Nat->Rat}{L:List Lp}(hp:∀x,x∈L->0<x.2.2)(h:∀x,x∈L->x.1=p->f x.2.1<=g x.2.1){x0:Lp}(h0:x0∈L)(e0:x0.1=p):AB p f L+x0.2.2*(g x0.2.1-f x0.2.1)<=AB p g L:=by
 induction L with
 |nil=>cases h0
 |cons x l ih=>
  unfold AB
  rcases List.mem_cons.1 h0 with rfl|h0
  .rw[zD e0,zD e0];have h1:=Kt (p:=p) (f:=f) (g:=g) (L:=l) (fun y hy=>hp y (zY _ hy)) fun y hy=>h y (zY _ hy);grind
  have h1:=ih (fun y hy=>hp y (zY _ hy)) (fun y hy=>h y (zY _ hy)) h0
  by_cases e:x.1=p
  .rw[zD e,zD e];have h2:=yJ (h x zf e) (xD (hp x zf));grind
  rw[zC e,zC e];grind
theorem Cf{p:Nat}{f:Nat->Rat}{L:List Lp}(hp:∀x,x∈L->0<x.2.2)(h:∀x,x∈L->x.1=p->0<=f x.2.1):0<=AB p f L:=by
 have:=Kt (p:=p) (f:=fun _=>0) (g:=f) hp h
 rwa [DO fun _ _ _=>rfl]at this
theorem Caps.le_of{n p:Nat}{L:List Lp}{f:Nat->Rat}{c:Rat}(h:Caps n L)(hc:0<=c)(hf:∀x,x∈L->x.1=p->f x.2.1<=c):AB p f L<=c:=by
 have h1:=Kt (p:=p) (f:=f) (g:=fun h=>c*(fun _=>1) h) h.pos fun x hx e=>by rw[Rat.mul_one];exact hf x hx e
 rw[Im]at h1;have h2:=yJ (h.le1 p) hc;grind
theorem Caps.int_sum{n p:Nat}{L:List Lp}{f:Nat->Rat}{D:Rat}(h:Caps n L)(hf:∀x,x∈L->x.1=p->IsI (D*f x.2.1)):IsI (6000*D*AB p f L):=by
 have hw:=h.whole;clear h
 induction L with
 |nil=>show IsI (6000*D*0);rw[Rat.mul_zero];exact IsI.zero
 |cons x l ih=>
  unfold AB;have h1:=ih (fun y hy=>hf y (zY _ hy)) fun y hy=>hw y (zY _ hy)
  by_cases e:x.1=p
  .rw[zD e];have h2:=(hw x zf).mul (hf x zf e);have e2:6000*D*(x.2.2*f x.2.1+AB p f l)=6000*x.2.2*(D*f x.2.1)+6000*D*AB p f l:=by grind
   rw[e2];exact h2.add h1
  rw[zC e];have e2:6000*D*(0+AB p f l)=6000*D*AB p f l:=by grind
  rw[e2];exact h1
theorem Ux{x:Rat}(h1:IsI (6000*x))(h2:0<x):1/6000<=x:=by
 obtain⟨d,e,hd⟩:=h1.toNat (by grind)
 have h3:(1:Rat)<=(d:Rat):=by
  have:((1:Nat):Rat)<=(d:Rat):=Rat.natCast_le_natCast.2 hd
  simpa using this
 grind
theorem IR{n:Nat}{L:List Lp}(hL:Caps n L)(d:Nat->Rat)(ρ:Nat->Nat)
 (h:∀p,p<n->0<d p->d p<=AB p d L/\∃x,x∈L/\x.1=p/\ρ x.2.1<ρ p):∀p,p<n->d p<=0:=by
 intro p0 ab
 have key : ∀m,(∀p,p<m->d p<=0)\/∃q,q<m/\0<d q/\∀p,p<m->d p<d q\/(d p=d q/\ρ q<=ρ p):=by
  intro m
  induction m with
  |zero=>exact .inl fun p hp=>absurd hp (by omega)
  |succ m ih=>
   by_cases c:0<d m
   .rcases ih with ih|⟨q,q1,q2,q3⟩
    .refine .inr ⟨m,by omega,c,fun p hp=>?_⟩
     by_cases e:p=m
     .subst e;exact .inr ⟨rfl,zB _⟩
     have:=ih p (by omega);exact .inl (by grind)
    by_cases c2:d q<d m\/(d q=d m/\ρ m<=ρ q)
    .refine .inr ⟨m,by omega,c,fun p hp=>?_⟩
     by_cases e:p=m
     .subst e;exact .inr ⟨rfl,zB _⟩
     have:=q3 p (by omega)
     rcases c2 with c2|⟨c2,c3⟩
     .rcases this with t|⟨t,_⟩
      .exact .inl (by grind)
      exact .inl (by grind)
     rcases this with t|⟨t,t2⟩
     .exact .inl (by grind)
     exact .inr ⟨by grind,by omega⟩
    refine .inr ⟨q,by omega,q2,fun p hp=>?_⟩
    by_cases e:p=m
    .subst e
     by_cases c3:d p<d q
     .exact .inl c3
     refine .inr ?_;have h1:¬d q<d p:=fun a=>c2 (.inl a);have h2:d p=d q:=by grind
     refine⟨h2,?_⟩
     rcases wn (ρ p) (ρ q) with a|a
     .exact absurd (Or.inr ⟨h2.symm,by omega⟩) c2
     exact a
    exact q3 p (by omega)
   rcases ih with ih|⟨q,q1,q2,q3⟩
   .refine .inl fun p hp=>?_
    by_cases e:p=m
    .subst e;exact Rat.not_lt.1 c
    exact ih p (by omega)
   refine .inr ⟨q,by omega,q2,fun p hp=>?_⟩
   by_cases e:p=m
   .subst e;exact .inl (by have:=Rat.not_lt.1 c;grind)
   exact q3 p (by omega)
 rcases key n with k|⟨q,q1,q2,q3⟩
 .exact k p0 ab
 exfalso;obtain⟨h1,x,x1,x2,x3⟩:=h q q1 q2
 have aa:∀y,y∈L->d y.2.1<=d q:=fun y hy=>by
  rcases q3 _ (hL.lt y hy).2 with a|⟨a,_⟩
  .exact xD a
  rw[a];exact xZ
 have hg:=Gb (p:=q) (f:=d) (g:=fun _=>d q) hL.pos (fun y hy _=>aa y hy) x1 x2;have h2:AB q (fun _=>d q) L<=d q:=hL.le_of (xD q2) fun _ _ _=>xZ
 have h3:d x.2.1<d q:=by
  rcases q3 _ (hL.lt x x1).2 with a|⟨_,b⟩
  .exact a
  omega
 have h4:=vI (hL.pos x x1) (show 0<d q-d x.2.1 by grind);grind
def Bi(L:List Lp)(u:List Nat)(val:Nat->Rat):Mx:=fun i j=>
 let p:=u.getD i 0
 if j=u.length then AB p (fun h=>if h∈u then 0 else val h) L
 else (if i=j then 1 else 0)-AB p (fun h=>if h=u.getD j 0 then 1 else 0) L
def Cu(S:Rat->Bool)(L:List Lp)(u:List Nat)(val:Nat->Rat):Nat->Rat :=
 match AA S u.length u.length (Bi L u val) with
 |.ok M=>fun p=>if p∈u then M (u.idxOf p) u.length else val p
 |.error _=>val
def Ni(S:Rat->Bool)(L:List Lp):List (List Nat)->(Nat->Rat)->Nat->Rat
 | [],val=>val
 |u::us,val=>Ni S L us (Cu S L u val)
theorem Dt{u:List Nat}{i:Nat}(h:i<u.length):u.getD i 0=u[i]:=by simp[List.getD,h]
theorem EI{u:List Nat}{i:Nat}(h:i<u.length):u.getD i 0∈u:=by
 rw[Dt h];exact zN h
theorem Gc{u:List Nat}(hu:u.Nodup){i:Nat}(h:i<u.length):u.idxOf (u.getD i 0)=i:=by
 rw[Dt h];exact hu.idxOf_getElem i h
theorem Gd{u:List Nat}{p:Nat}(h:p∈u):u.getD (u.idxOf p) 0=p:=by
 have:=List.idxOf_lt_length_iff.2 h;rw[Dt this];exact List.getElem_idxOf this
theorem Sd{u:List Nat}(hu:u.Nodup)(y:Nat->Rat)(h:Nat):(Aq u.length fun j=>(if h=u.getD j 0 then 1 else 0)*y j)=if h∈u then y (u.idxOf h) else 0:=by
 by_cases e:h∈u
 .rw[zD e,Ce (k:=u.idxOf h) _ (List.idxOf_lt_length_iff.2 e) fun j hj d=>?_]
  .rw[Gd e,zD rfl,wG]
  rw[zC,vN];intro e2;rw[e2,Gc hu hj]at d;exact d rfl
 rw[zC e];exact CA fun j hj=>by rw[zC (fun e2=>e (by rw[e2];exact EI hj)),vN]
theorem In{L:List Lp}{u:List Nat}{val:Nat->Rat}(hu:u.Nodup){i:Nat}(hi:i<u.length)(y:Nat->Rat):
 (Aq u.length fun j=>Bi L u val i j*y j)=y i-AB (u.getD i 0) (fun h=>if h∈u then y (u.idxOf h) else 0) L:=by
 rw [As (g:=fun j=>(if i=j then 1 else 0)*y j+(-1)*AB (u.getD i 0) (fun h=>y j*if h=u.getD j 0 then 1 else 0) L) fun j hj=>by
  unfold Bi;dsimp only;rw[zC (by omega),Im];grind]
 rw[CB,AW,Ce (k:=i) _ hi fun j _ d=>by rw[zC (fun e=>d e.symm),vN],zD rfl,wG,Sc]
 rw [En (g:=fun h=>if h∈u then y (u.idxOf h) else 0) fun x _ _=>by
  rw[<-Sd hu];exact As fun j _=>vM _ _]
 grind
theorem Sf{L:List Lp}{u:List Nat}{val:Nat->Rat}(hu:u.Nodup)(y:Nat->Rat):
 Sol u.length (Bi L u val) y (fun i=>Bi L u val i u.length)<->∀i,i<u.length->y i=AB (u.getD i 0) (fun h=>if h∈u then y (u.idxOf h) else val h) L:=by
 have key:∀i,i<u.length->((Aq u.length fun j=>Bi L u val i j*y j)=Bi L u val i u.length<->y i=AB (u.getD i 0) (fun h=>if h∈u then y (u.idxOf h) else val h) L):=by
  intro i hi;rw[In hu hi,En (f:=fun h=>if h∈u then y (u.idxOf h) else val h) (g:=fun h=>(if h∈u then y (u.idxOf h) else 0)+(if h∈u then 0 else val h)) fun x _ _=>by split<;>grind,Il]
  have e:Bi L u val i u.length=AB (u.getD i 0) (fun h=>if h∈u then 0 else val h) L:=by
   unfold Bi;dsimp only;rw[zD rfl]
  rw[e];constructor<;>intro h<;>grind
 unfold Sol;exact⟨fun h i hi=>(key i hi).1 (h i hi),fun h i hi=>(key i hi).2 (h i hi)⟩
theorem Fit.mono{B B':Nat}{x:Rat}(h:Fit B x)(hB:B<=B'):Fit B' x:=by
 obtain⟨a,b,d,d1,d2,d3⟩:=h;exact⟨a,b,d,d1,zS d2 hB,d3⟩
structure Inv(L:List Lp)(F:List Nat)(done:List Nat)(val:Nat->Rat)(D:Nat):Prop where
 rng:∀p,0<=val p/\val p<=1
 dp:0<D
 dle:D<=6000^done.length
 whole:∀p,IsI ((D:Rat)*val p)
 eqs:∀p,p∈done->val p=AB p val L
 rest:∀p,p∉done->val p=if p∈F then 1 else 0
 clo:∀p,p∈done->∀x,x∈L->x.1=p->rk (Ai L) F x.2.1<=0\/x.2.1∈done
 dn:∀p,p∈done->0<rk (Ai L) F p
theorem Inv.start(L:List Lp)(F:List Nat):Inv L F [] (fun p=>if p∈F then 1 else 0) 1:=by
 refine⟨fun p=>?_,by omega,by simp,fun p=>?_,fun p h=>by simp at h,fun p _=>rfl,fun p h=>by simp at h,fun p h=>by simp at h⟩
 .split<;>constructor<;>decide
 split
 .exact(IsI.nat 1).mul IsI.one
 exact(IsI.nat 1).mul IsI.zero
structure Nxt(L:List Lp)(F:List Nat)(done u:List Nat):Prop where
 nodup:u.Nodup
 new:∀p,p∈u->p∉done
 pos:∀p,p∈u->0<rk (Ai L) F p
 clo:∀p,p∈u->∀x,x∈L->x.1=p->rk (Ai L) F x.2.1<=0\/x.2.1∈u\/x.2.1∈done
def Ready(L:List Lp)(F:List Nat):List Nat->List (List Nat)->Prop
 |_,[]=>True
 |done,u::us=>Nxt L F done u/\Ready L F (done++u) us
def tq:Rat:=1/12000
theorem Io(k:Nat):0<tq^k/\tq^k<=1:=by
 induction k with
 |zero=>rw[Rat.pow_zero];constructor<;>decide
 |succ k ih=>
  rw[vZ];have h1:(0:Rat)<tq:=by unfold tq;grind
  refine⟨vI ih.1 h1,?_⟩;have h2:=yJ (show tq<=1 by unfold tq;grind) (xD ih.1);grind
theorem G5{L:List Lp}{h p:Nat}(e:(h,p)∈Ai L):∃x,x∈L/\x.1=p/\x.2.1=h:=by
 unfold Ai at e;obtain⟨x,hx,e2⟩:=List.mem_map.1 e;injection e2 with a b;exact⟨x,hx,b,a⟩
theorem Jz{L:List Lp}{x:Lp}(h:x∈L):(x.2.1,x.1)∈Ai L:=List.mem_map.2 ⟨x,h,rfl⟩
theorem Nxt.sys{n D:Nat}{L:List Lp}{F done u:List Nat}{val:Nat->Rat}(hL:Caps n L)(hi:Inv L F done val D)(hx:Nxt L F done u):
 Sys u.length 6000 D (Bi L u val) (fun j=>1-tq^(rk (Ai L) F (u.getD j 0)).toNat):=by
 have one01:∀(c:Prop)[Decidable c],0<=(if c then (1:Rat) else 0):=fun c _=>by split<;>decide
 refine⟨⟨fun i ab=>?_,fun i j h1 h2 h3=>?_,fun i h1=>?_,fun i h1=>?_,fun i h1=>?_,fun j _=>?_⟩,by omega,hi.dp,fun i j h1 h2=>?_,fun i h1=>?_⟩
 .unfold Bi;dsimp only;rw[zC (by omega),zD rfl];have:=Cf (p:=u.getD i 0) (f:=fun h=>if h=u.getD i 0 then 1 else 0) hL.pos fun x _ _=>one01 _;grind
 .unfold Bi;dsimp only;rw[zC (by omega),zC (fun e=>h3 e.symm)];have:=Cf (p:=u.getD i 0) (f:=fun h=>if h=u.getD j 0 then 1 else 0) hL.pos fun x _ _=>one01 _;grind
 .unfold Bi;dsimp only;rw[zD rfl]
  exact Cf hL.pos fun x _ _=>by
   split
   .exact xZ
   exact(hi.rng _).1
 .have h2:=In (L:=L) (val:=val) hx.nodup h1 (fun _=>1);rw[As (g:=Bi L u val i) fun j _=>Rat.mul_one _]at h2;rw[h2];unfold Bi;dsimp only;rw[zD rfl]
  have h3:AB (u.getD i 0) (fun h=>(if h∈u then 0 else val h)+if h∈u then 1 else 0) L<=1:=hL.le_of (by decide) fun x _ _=>by
   split
   .grind
   have:=(hi.rng x.2.1).2;grind
  rw[Il]at h3;grind
 .rw [In hx.nodup h1];have hp:=hx.pos _ (EI h1);obtain⟨r,hr⟩:∃r:Nat,rk (Ai L) F (u.getD i 0)=((r+1:Nat):Int):=⟨(rk (Ai L) F (u.getD i 0)).toNat-1,by omega⟩;obtain⟨h0,k1,k2⟩:=FJ hr;obtain⟨x0,x1,x2,x3⟩:=G5 k2
  have hg:=Gb (p:=u.getD i 0) (f:=fun h=>if h∈u then 1-tq^(rk (Ai L) F (u.getD (u.idxOf h) 0)).toNat else 0) (g:=fun _=>1) hL.pos (fun y _ _=>by
   split
   .have:=(Io (rk (Ai L) F (u.getD (u.idxOf y.2.1) 0)).toNat).1;grind
   decide) x1 x2
  have ad:=hL.le1 (u.getD i 0);have aa:=Ux (hL.whole x0 x1) (hL.pos x0 x1)
  have d:tq^r<=1-(if x0.2.1∈u then 1-tq^(rk (Ai L) F (u.getD (u.idxOf x0.2.1) 0)).toNat else 0):=by
   split
   .next e=>
    rw[Gd e,x3,k1]
    show tq^r<=1-(1-tq^((r:Int)).toNat)
    rw[wL];grind
   have:=(Io r).2;grind
  have e1:((rk (Ai L) F (u.getD i 0)).toNat)=r+1:=by rw[hr];exact wL _
  rw[e1,vZ];have h5:=yJ d (xD (hL.pos x0 x1));have h6:=yJ aa (xD (Io r).1);have h7:tq^r*tq<tq^r*(1/6000):=Rat.mul_lt_mul_of_pos_left (by unfold tq;grind) (Io r).1;grind
 .have:=(Io (rk (Ai L) F (u.getD j 0)).toNat).2;grind
 .unfold Bi;dsimp only;rw[zC (by omega)]
  have h3:=hL.int_sum (p:=u.getD i 0) (f:=fun h=>if h=u.getD j 0 then 1 else 0) (D:=1) fun x _ _=>by
   split
   .exact IsI.one.mul IsI.one
   exact IsI.one.mul IsI.zero
  have h4:IsI ((if i=j then 1 else 0)*6000):=by
   split
   .exact IsI.one.mul (IsI.nat 6000)
   exact IsI.zero.mul (IsI.nat 6000)
  have e:((6000:Nat):Rat)*((if i=j then 1 else 0)-AB (u.getD i 0) (fun h=>if h=u.getD j 0 then 1 else 0) L)=(if i=j then 1 else 0)*6000+-(6000*1*AB (u.getD i 0) (fun h=>if h=u.getD j 0 then 1 else 0) L):=by
   rw[show ((6000:Nat):Rat)=6000 from rfl];grind
  rw[e];exact h4.add h3.neg
 unfold Bi;dsimp only;rw[zD rfl]
 exact hL.int_sum fun x _ _=>by
  split
  .rw[Rat.mul_zero];exact IsI.zero
  exact hi.whole _
theorem J0{m d D:Nat}(h1:D<=6000^d)(h2:d+m<=16):(6000^(m+1)*D)*(6000^(m+1)*D)<=6000^34:=by
 have h3:6000^(m+1)*D<=6000^17:=by
  calc 6000^(m+1)*D<=6000^(m+1)*6000^d:=xP _ h1
   _=6000^(m+1+d):=(wF _ _ _).symm
   _<=6000^17:=zi (by omega) (by omega)
 calc _<=6000^17*6000^17:=wX h3 h3
  _=6000^34:=(wF _ _ _).symm
theorem Inv.step{n D:Nat}{S:Rat->Bool}{L:List Lp}{F done u:List Nat}{val:Nat->Rat}(hL:Caps n L)(hS:∀x,Fit (6000^34) x->S x=true)
 (hi:Inv L F done val D)(hx:Nxt L F done u)(ae:done.length+u.length<=16):
 ∃M D',AA S u.length u.length (Bi L u val)=.ok M/\Inv L F (done++u) (Cu S L u val) D':=by
 obtain⟨M,m1,m2,m3,d,d1,d2,d3⟩:=(hx.sys hL hi).result (S:=S) fun x h=>hS x (h.mono (J0 hi.dle ae));have hv:Cu S L u val=fun p=>if p∈u then M (u.idxOf p) u.length else val p:=by unfold Cu;rw[m1]
 have af:=(Sf (L:=L) (val:=val) hx.nodup fun i=>M i u.length).1 ((m2 _).2 fun _ _=>rfl);have ad:∀{p},p∈u->u.idxOf p<u.length:=fun h=>List.idxOf_lt_length_iff.2 h
 have ab:∀p,p∈done->AB p (fun q=>if q∈u then M (u.idxOf q) u.length else val q) L=AB p val L:=fun p hp=>En fun x aa e=>by
  rw[zC];intro hm
  rcases hi.clo p hp x aa e with a|a
  .have:=hx.pos _ hm;omega
  exact hx.new _ hm a
 refine⟨M,d*D,m1,?_⟩;rw[hv];refine⟨fun p=>?_,vH d1 hi.dp,?_,fun p=>?_,fun p hp=>?_,fun p hp=>?_,fun p hp x aa e=>?_,fun p hp=>?_⟩
 .split
  .next e=>exact m3 _ (ad e)
  exact hi.rng p
 .rw[zV,wF,yN];exact wX hi.dle d2
 .split
  .next e=>exact d3 _ (ad e)
  have:=(IsI.nat d).mul (hi.whole p)
  rwa [xr,Rat.mul_assoc]
 .by_cases e:p∈u
  .rw[zD e];have:=af _ (ad e)
   rwa [Gd e]at this
  rw[zC e]
  rcases List.mem_append.1 hp with h|h
  .rw[ab p h];exact hi.eqs p h
  exact absurd h e
 .rw[zC (fun h=>hp (wC _ h))];exact hi.rest p fun h=>hp (xA _ h)
 .rcases List.mem_append.1 hp with h|h
  .rcases hi.clo p h x aa e with a|a
   .exact .inl a
   exact .inr (xA _ a)
  rcases hx.clo p h x aa e with a|a|a
  .exact .inl a
  .exact .inr (wC _ a)
  exact .inr (xA _ a)
 rcases List.mem_append.1 hp with h|h
 .exact hi.dn p h
 exact hx.pos p h
theorem Inv.run{n:Nat}{S:Rat->Bool}{L:List Lp}{F:List Nat}(hL:Caps n L)(hS:∀x,Fit (6000^34) x->S x=true):
 ∀(us:List (List Nat)) (done:List Nat) (val:Nat->Rat) (D:Nat),Inv L F done val D->Ready L F done us->done.length+us.flatten.length<=16->∃D',Inv L F (done++us.flatten) (Ni S L us val) D':=by
 intro us
 induction us with
 |nil=>intro done val D hi _ _;exact⟨D,by simpa [Ni] using hi⟩
 |cons u us ih=>
  intro done val D hi hr d;rw[wH,zV]at d;obtain⟨M,D',_,h⟩:=hi.step hL hS hr.1 (by omega);have:=ih (done++u) _ D' h hr.2 (by rw[zV];omega);rw[wH,<-xT];exact this
structure Eff(n:Nat)(L:List Lp)(F:List Nat)(e:Nat->Rat):Prop where
 rng:∀p,0<=e p/\e p<=1
 listed:∀p,p∈F->e p=1
 o:∀p,p<n->rk (Ai L) F p<0->e p=0
 sum:∀p,p<n->p∉F->e p=AB p e L
 pos:∀p,p<n->(0<e p<->0<=rk (Ai L) F p)
theorem Inv.eff{n D:Nat}{L:List Lp}{F done:List Nat}{val:Nat->Rat}(hL:Caps n L)(hi:Inv L F done val D)(d:∀p,p<n->0<rk (Ai L) F p->p∈done):Eff n L F val:=by
 have aa:InN n (Ai L):=fun y hy=>by
  obtain⟨x,hx,rfl⟩:=List.mem_map.1 hy;exact⟨(hL.lt x hx).2,(hL.lt x hx).1⟩
 have hl:∀p,p∈F->val p=1:=fun p hp=>by
  have:p∉done:=fun h=>by
   have h1:=hi.dn p h;have h2:rk (Ai L) F p=0:=EU.2 hp;omega
  rw[hi.rest p this,zD hp]
 have ho:∀p,p<n->rk (Ai L) F p<0->val p=0:=fun p _ hr=>by
  rw[hi.rest p fun h=>by have:=hi.dn p h;omega,zC fun h=>by have:rk (Ai L) F p=0:=EU.2 h;omega]
 have hs:∀p,p<n->p∉F->val p=AB p val L:=fun p hp hF=>by
  by_cases c:0<rk (Ai L) F p
  .exact hi.eqs p (d p hp c)
  have c0:rk (Ai L) F p≠0:=fun e=>hF (EU.1 e);rw[ho p hp (by omega)];refine(DO fun x hx e=>ho _ (hL.lt x hx).2 ?_).symm
  rcases Int.lt_or_le (rk (Ai L) F x.2.1) 0 with a|a
  .exact a
  have:=JR a (Jz hx);rw[e]at this;omega
 refine⟨hi.rng,hl,ho,hs,fun p hp=>⟨fun h=>?_,fun h=>?_⟩⟩
 .rcases Int.lt_or_le (rk (Ai L) F p) 0 with a|a
  .rw[ho p hp a]at h;exact absurd h (by decide)
  exact a
 obtain⟨r,hr⟩:∃r:Nat,rk (Ai L) F p=(r:Int):=⟨(rk (Ai L) F p).toNat,by omega⟩;clear h
 induction r generalizing p with
 |zero=>rw[hl p (EU.1 hr)];decide
 |succ r ih=>
  have hF:p∉F:=fun h=>by have:rk (Ai L) F p=0:=EU.2 h;omega
  obtain⟨h0,k1,k2⟩:=FJ hr;obtain⟨x0,x1,x2,x3⟩:=G5 k2;have h4:=ih x0.2.1 (hL.lt x0 x1).2 (by rw[x3];exact k1);have h5:=Gb (p:=p) (f:=fun _=>0) (g:=val) hL.pos (fun y _ _=>(hi.rng _).1) x1 x2;rw[DO fun _ _ _=>rfl]at h5;rw[hs p hp hF];have h6:=vI (hL.pos x0 x1) h4;grind
section eff
variable {n:Nat} {L:List Lp} {F:List Nat} {e:Nat->Rat}
theorem Eff.least(hL:Caps n L)(h:Eff n L F e){v:Nat->Rat}(h0:∀p,p<n->0<=v p)(h1:∀p,p<n->p∈F->1<=v p)(h2:∀p,p<n->p∉F->AB p v L<=v p):∀p,p<n->e p<=v p:=by
 intro p hp
 have:=IR hL (fun p=>e p-v p) (fun p=>(rk (Ai L) F p).toNat) (fun p hp hd=>by
  have d:0<e p:=by have:=h0 p hp;grind
  have hr:=(h.pos p hp).1 d
  have hF:p∉F:=fun hm=>by
   have a:=h.listed p hm;have b:=h1 p hp hm;grind
  have aa:rk (Ai L) F p≠0:=fun e=>hF (EU.1 e);refine⟨?_,?_⟩
  .rw[Sb,<-h.sum p hp hF];have:=h2 p hp hF;grind
  obtain⟨r,hr⟩:∃r:Nat,rk (Ai L) F p=((r+1:Nat):Int):=⟨(rk (Ai L) F p).toNat-1,by omega⟩;obtain⟨h0,k1,k2⟩:=FJ hr;obtain⟨x0,x1,x2,x3⟩:=G5 k2;exact⟨x0,x1,x2,by rw[x3];omega⟩) p hp
 grind
theorem Eff.one(hL:Caps n L){e':Nat->Rat}(h:Eff n L F e)(h':Eff n L F e'):∀p,p<n->e p=e' p:=fun p hp=>by
 have a:=h.least hL (fun q _=>(h'.rng q).1) (fun q _ hq=>by rw[h'.listed q hq];exact xZ) (fun q hq hF=>by rw[<-h'.sum q hq hF];exact xZ) p hp;have b:=h'.least hL (fun q _=>(h.rng q).1) (fun q _ hq=>by rw[h.listed q hq];exact xZ) (fun q hq hF=>by rw[<-h.sum q hq hF];exact xZ) p hp;grind
end eff
end Sh
end
section
namespace Ci
section
variable {E:List (Nat×Nat)} {n p q:Nat}
theorem P7{l:List Nat}(h:l.Nodup){i j:Nat}{hi:i<l.length}{hj:j<l.length}(e:l[i]=l[j]):i=j:=by
 have hp:=List.pairwise_iff_getElem.1 h
 rcases Nat.lt_trichotomy i j with c|c|c
 .exact absurd e (hp i j hi hj c)
 .exact c
 exact absurd e.symm (hp j i hj hi c)
theorem L0(hE:InN n E):p∈ords n E<->p<n/\fst E p=p:=by
 unfold ords;rw[JT n _ (Left.start hE) Cx];exact Bz
theorem Ip(hE:InN n E):(ords n E).Nodup:=(IW n _ (Left.start hE) Cx).1
theorem Sg(hE:InN n E):(ords n E).length<=n:=by
 have:=(IW n _ (Left.start hE) Cx).2;have h2:=Cx (n:=n) (E:=E);unfold ords;omega
theorem G6:(Ar n E).length=(ords n E).length:=by simp[Ar]
theorem Fdq{k:Nat}(hk:k<(Ar n E).length):(Ar n E)[k]=CL n E ((ords n E)[k]'(by simpa [Ar] using hk)):=by simp[Ar]
noncomputable def at'(n:Nat)(E:List (Nat×Nat))(p:Nat):Nat:=(ords n E).idxOf (fst E p)
theorem J1(hE:InN n E)(hp:p<n):at' n E p<(ords n E).length:=List.idxOf_lt_length_iff.2 ((L0 hE).2 ⟨Gq hp,FK⟩)
theorem Ku(hE:InN n E)(hp:p<n):(ords n E)[at' n E p]'(J1 hE hp)=fst E p:=List.getElem_idxOf (J1 hE hp)
theorem G7(hE:InN n E)(hp:p<n){k:Nat}(hk:k<(Ar n E).length):p∈(Ar n E)[k]<->k=at' n E p:=by
 have d:k<(ords n E).length:=by rwa [G6]at hk
 have ho:=(L0 hE).1 (zN d);rw[Fdq,CF];constructor
 .rintro ⟨_,hm⟩
  have h1:(ords n E)[k]=(ords n E)[at' n E p]'(J1 hE hp):=by
   rw[Ku hE hp,<-ho.2];exact Fx hm
  exact P7 (Ip hE) h1
 intro e;subst e;refine⟨hp,?_⟩;rw[Ku hE hp];exact DZ.symm
theorem Uy(hE:InN n E)(e:(p,q)∈E):at' n E p<=at' n E q:=by
 obtain⟨hp,hq⟩:=hE _ e;exact OF n _ (Left.start hE) Cx _ _ (J1 hE hp) (J1 hE hq) p q e (Ku hE hp).symm (Ku hE hq).symm
variable {F F':List Nat}
end
end Ci
end
section
namespace Sh
open Nt Ci
noncomputable def unk(E:List (Nat×Nat))(F:List Nat)(c:List Nat):List Nat:=c.filter fun p=>decide (0<rk E F p)
noncomputable def BQ(n:Nat)(E:List (Nat×Nat))(F:List Nat):List (List Nat):=(Ar n E).map (unk E F)
theorem Eo{E:List (Nat×Nat)}{F c:List Nat}{p:Nat}:p∈unk E F c<->p∈c/\0<rk E F p:=by
 unfold unk;rw[List.mem_filter,yU]
theorem GW{n:Nat}{E:List (Nat×Nat)}{k:Nat}(hk:k<(Ar n E).length):((Ar n E)[k]).Nodup:=by
 rw[Fdq];exact Mh
theorem Iq{n:Nat}{E:List (Nat×Nat)}{F:List Nat}{k:Nat}(hk:k<(Ar n E).length):(BQ n E F)[k]'(by unfold BQ;rw[zW];exact hk)=unk E F (Ar n E)[k]:=by
 unfold BQ;rw[zz]
theorem DE{n:Nat}{E:List (Nat×Nat)}{F:List Nat}(hE:InN n E){t p:Nat}(ht:t<=(Ar n E).length):p∈((BQ n E F).take t).flatten<->p<n/\0<rk E F p/\at' n E p<t:=by
 have hl:(BQ n E F).length=(Ar n E).length:=by unfold BQ;rw[zW]
 rw[List.mem_flatten];constructor
 .rintro ⟨u,hu,hp⟩;obtain⟨k,hk,rfl⟩:=zg hu;rw[yt]at hk;have d:k<(Ar n E).length:=by omega
  rw[wV,Iq d,Eo]at hp
  have h:p<n:=by
   rw[Fdq,CF]at hp;exact hp.1.1
  have:=(G7 hE h d).1 hp.1;exact⟨h,hp.2,by omega⟩
 rintro⟨h1,h2,h3⟩;have d:at' n E p<(Ar n E).length:=by omega
 refine⟨(BQ n E F)[at' n E p]'(by omega),?_,?_⟩
 .rw[List.mem_iff_getElem];exact⟨at' n E p,by rw[yt];omega,by rw[wV]⟩
 rw[Iq d,Eo];exact⟨(G7 hE h1 d).2 rfl,h2⟩
theorem Nj{n:Nat}{L:List Lp}{F:List Nat}(hE:InN n (Ai L)):∀(m t:Nat),t+m=(Ar n (Ai L)).length->Ready L F ((BQ n (Ai L) F).take t).flatten ((BQ n (Ai L) F).drop t):=by
 have hl:(BQ n (Ai L) F).length=(Ar n (Ai L)).length:=by unfold BQ;rw[zW]
 intro m
 induction m with
 |zero=>
  intro t ht;rw[List.drop_eq_nil_of_le (by omega)];trivial
 |succ m ih=>
  intro t ht;have d:t<(Ar n (Ai L)).length:=by omega
  have aa:t<(BQ n (Ai L) F).length:=by omega
  rw[wD aa];refine⟨?_,?_⟩
  .rw [Iq d];refine⟨(GW d).filter _,fun p hp hd=>?_,fun p hp=>(Eo.1 hp).2,fun p hp x hx e=>?_⟩
   .have h1:=(DE hE (by omega)).1 hd;have h2:=(G7 hE h1.1 d).1 (Eo.1 hp).1;omega
   by_cases c:rk (Ai L) F x.2.1<=0
   .exact .inl c
   have he:=Jz hx;rw[e]at he;have h:x.2.1<n/\p<n:=hE _ he;have h2:=(G7 hE h.2 d).1 (Eo.1 hp).1;have h3:at' n (Ai L) x.2.1<=at' n (Ai L) p:=Uy hE he
   by_cases c2:at' n (Ai L) x.2.1=t
   .exact .inr (.inl (Eo.2 ⟨(G7 hE h.1 d).2 c2.symm,by omega⟩))
   exact .inr (.inr ((DE hE (by omega)).2 ⟨h.1,by omega,by omega⟩))
  have h1:=ih (t+1) (by omega);rw[List.take_add_one,zj aa,Option.toList_some,xQ,List.flatten_singleton]at h1;exact h1
theorem G8{n:Nat}{L:List Lp}{F:List Nat}(hE:InN n (Ai L)):Ready L F [] (BQ n (Ai L) F):=by
 have:=Nj (F:=F) hE (Ar n (Ai L)).length 0 (by omega)
 simpa using this
theorem VV{n:Nat}{L:List Lp}{F:List Nat}(hE:InN n (Ai L)){p:Nat}(hp:p<n)(hr:0<rk (Ai L) F p):p∈(BQ n (Ai L) F).flatten:=by
 have hl:(BQ n (Ai L) F).length=(Ar n (Ai L)).length:=by unfold BQ;rw[zW]
 have h1:=(DE (F:=F) hE (t:=(Ar n (Ai L)).length) (zB _)).2 ⟨hp,hr,by have:=J1 hE hp;rw[G6];exact this⟩
 rwa [xE (by omega)]at h1
theorem Ready.drop_nil{L:List Lp}{F:List Nat}:∀{us:List (List Nat)} {done:List Nat},Ready L F done us->Ready L F done (us.filter fun u=>decide (u≠[])):=by
 intro us
 induction us with
 |nil=>intro done _;trivial
 |cons u us ih=>
  intro done h;rw[zk]
  by_cases e:u=[]
  .rw[zC (by simp[e])];have h2:=h.2;rw[e,xN]at h2;exact ih h2
  rw[zD (by simp[e])];exact⟨h.1,ih h.2⟩
theorem EJ(us:List (List Nat)):(us.filter fun u=>decide (u≠[])).flatten=us.flatten:=by
 induction us with
 |nil=>rfl
 |cons u us ih=>
  rw[zk]
  by_cases e:u=[]
  .rw[zC (by simp[e]),ih,e];rfl
  rw[zD (by simp[e]),wH,wH,ih]
noncomputable def GX(n:Nat)(E:List (Nat×Nat))(F:List Nat):List (List Nat):=(BQ n E F).filter fun u=>decide (u≠[])
noncomputable def L3(S:Rat->Bool)(n:Nat)(L:List Lp)(F:List Nat):Nat->Rat:=Ni S L (GX n (Ai L) F) fun p=>if p∈F then 1 else 0
theorem Caps.inN{n:Nat}{L:List Lp}(hL:Caps n L):InN n (Ai L):=fun y hy=>by
 obtain⟨x,hx,rfl⟩:=List.mem_map.1 hy;exact⟨(hL.lt x hx).2,(hL.lt x hx).1⟩
theorem L4{n:Nat}{S:Rat->Bool}{L:List Lp}{F:List Nat}(hL:Caps n L)(hS:∀x,Fit (6000^34) x->S x=true)(d:(BQ n (Ai L) F).flatten.length<=16):
 ∃D,D<=6000^16/\Inv L F (BQ n (Ai L) F).flatten (L3 S n L F) D:=by
 have hr:=(G8 (F:=F) hL.inN).drop_nil;obtain⟨D,hD⟩:=Inv.run hL hS _ [] _ 1 (Inv.start L F) hr (by rw[EJ];simpa using d);rw[EJ,yT]at hD;exact⟨D,zS hD.dle (zi (by omega) d),hD⟩
theorem Si{n:Nat}{S:Rat->Bool}{L:List Lp}{F:List Nat}(hL:Caps n L)(hS:∀x,Fit (6000^34) x->S x=true)(d:(BQ n (Ai L) F).flatten.length<=16):Eff n L F (L3 S n L F):=by
 obtain⟨D,_,h⟩:=L4 hL hS d;exact h.eff hL fun p hp hr=>VV hL.inN hp hr
end Sh
end
end Go.Proofs.YtefmpngjjmddjaaGreatDoor

/- Parts of the proof. -/
import Derived.Test.YtmfjbpcecpgchaaGreatDoorKfC
set_option maxHeartbeats 16000000
set_option maxRecDepth 1000000
open Go.Proofs.Tryz
namespace Go.Proofs.YtmfjbpcecpgchaaGreatDoor
theorem tkfD{P:Program}{md:Region.Mode}{ops:Array Oper}{Q:Exit->Act->World->Prop}{S:World->Prop}{oi:Oper}{v:Value}{fuel:Nat}{listed:Array Bool}{a:Act}{w:World}(i:Nat)(hi:ops[i]?=some oi)(hS:S w)(hy:YieldsIf P ops S oi v a)(h:wpAnyH P md ops Q S fuel (listed.setIfInBounds i true) (a.put oi.dst v) w)(hs:Region.noSelect ops=true:=by kernel_rfl)(hf:Region.free md ops listed i=true:=by kernel_rfl)(hr:(Region.ready md ops listed).contains i=true:=by kernel_rfl)(hQ:∀c a w,Q (.panic c) (a.put oi.dst v) w->Q (.panic c) a w:=by exact fun _ _ _ h=>h):wpAnyH P md ops Q S (fuel+1) listed a w:=yp hi hs hf hr hQ hy hS h
section
open Go.RowKit Go.Shelf
namespace Nt
def CZ:Code->List Code
 |.loop c=>c::CZ c
 |.seq a b=>CZ a++CZ b
 |.block _ c=>CZ c
 |.scope c=>CZ c
 |.cond _ a b=>CZ a++CZ b
 |_=>[]
noncomputable def Wy:Code:=((Tryz.f45.body.map CZ).bind fun l=>l[2]?).getD .skip
def SQ(q:Rat):Bool:=decide (ShortQ q)
def Fs(n:Nat)(M0:Mx)(w:World)(e:Ending)(w':World):Prop :=
 Below w.heap.size w w'/\((∃M v,Ax SQ n n M0=.ok M/\e=.returned (.tuple #[v,.int .i64 0])/\w'.ownsRow w.heap.size 34 3 v n (AN n fun i=>rq (M i n)))\/(∃er:Int,Ax SQ n n M0=.error er/\e=.returned (.tuple #[.slice none 0 0,.int .i64 er])))
theorem Dz{S:Rat->Bool}{n k:Nat}{M0 M:Mx}{e:Int}(h:Ax S n k M0=.ok M)(hs:Cb S n k M=.error e)(hk:k<n):Ax S n n M0=.error e:=by
 have key:∀m,k+1<=m->Ax S n m M0=.error e:=by
  intro m
  induction m with
  |zero=>intro h;omega
  |succ m ih=>
   intro hm;unfold Ax
   by_cases e1:m=k
   .rw[e1,h];exact hs
   rw[ih (by omega)];rfl
 exact key n hk
theorem Js{P:Nat->Prop}{k n:Nat}(h:¬∀j,k<=j->j<=n->P j):∃t,k<=t/\t<=n/\(∀j,k<=j->j<t->P j)/\¬P t:=by
 have key : ∀m,(∀j,k<=j->j<m->P j)\/∃t,k<=t/\t<m/\(∀j,k<=j->j<t->P j)/\¬P t:=by
  intro m
  induction m with
  |zero=>exact .inl fun j _ h=>absurd h (by omega)
  |succ m ih=>
   rcases ih with ih|⟨t,a,b,c,d⟩
   .by_cases hm:k<=m
    .by_cases hp:P m
     .refine .inl fun j h1 h2=>?_
      by_cases e:j=m
      .rw[e];exact hp
      exact ih j h1 (by omega)
     exact .inr ⟨m,hm,by omega,ih,hp⟩
    exact .inl fun j h1 h2=>ih j h1 (by omega)
   exact .inr ⟨t,a,by omega,c,d⟩
 rcases key (n+1) with h1|⟨t,a,b,c,d⟩
 .exact absurd (fun j a b=>h1 j a (by omega)) h
 exact⟨t,a,by omega,c,d⟩
theorem PV{n k:Nat}{M:Mx}(h:Eg SQ n k M=false):∃t,k<=t/\t<=n/\(∀j,k<=j->j<t->ShortQ (M k j)/\ShortQ (M k k))/\¬(ShortQ (M k t)/\ShortQ (M k k)):=by
 refine Js fun h2=>?_;have:Eg SQ n k M=true:=(CV SQ).2 fun j a b=>⟨zH (h2 j a b).1,zH (h2 j a b).2⟩;rw[h]at this;cases this
theorem PW{n k i:Nat}{M:Mx}(h:Eh SQ n k i M=false):∃t,k<=t/\t<=n/\(∀j,k<=j->j<t->ShortQ (M i k)/\ShortQ (M k j)/\ShortQ (M i j)/\ShortQ (M i k*M k j))/\¬(ShortQ (M i k)/\ShortQ (M k t)/\ShortQ (M i t)/\ShortQ (M i k*M k t)):=by
 refine Js fun h2=>?_;have:Eh SQ n k i M=true:=(Dy SQ).2 fun j a b=>⟨zH (h2 j a b).1,zH (h2 j a b).2.1,zH (h2 j a b).2.2.1,zH (h2 j a b).2.2.2⟩;rw[h]at this;cases this
theorem MatW.drewN{W:World}{B R n:Nat}{bl:Nat->Nat}{M:Mx}(h:MatW W B R n bl M)(q:Nat):MatW (W.drewN q) B R n bl M:=⟨h.lt,h.hd,h.fr,h.rows,h.inj,h.ne,h.lowR,h.low⟩
theorem Jt{S:Rat->Bool}{n k i m:Nat}{M:Mx}(a:i<=m)(h:AB S n k i M=none):AB S n k m M=none:=by
 induction m with
 |zero=>rw[show i=0 by omega]at h;exact h
 |succ m ih=>
  by_cases e:i=m+1
  .rw[<-e];exact h
  unfold AB;rw[ih (by omega)];rfl
def Sn(w:World)(R n k kb vb:Nat)(bl:Nat->Nat)(M2:Mx)(y:Nat)(wq:World):Prop :=
 ∃M3:Mx,Hid (AB SQ n k y M2=some M3)/\Hid (MatW wq w.heap.size R n bl M3)/\Hid (∀i j,i<n->j<=n->OkQ (M3 i j))/\Hid (Below w.heap.size w wq)/\Hid (Int1 wq w.heap.size n)/\Hid (Int1 wq kb k)/\Hid (Blk1 wq vb (.slice (some ⟨bl k,k*3,none⟩) (n+1-k) (n+1-k)))
theorem Nk{c0 c1 c2 c3 c6 c7 c8 bd be bf bg bh bi bj bk bm bn bo bp bq br bs bt bu bv bx bz bA bB bC bD bE bF bG bH bI bJ bK bL bM bN bO bP bQ bR bS bT bU bW bX bY bZ b0 b1 b2 b3 b4 b5 b6 b7 b8 b9 cc cd ce cf cg ch ci cj ck cl cm cn co cq cr ct cu cv cw cx cy cz cA cB cC cD cE cF cG cH ak al am an ao aq ar au av aw ax ay az aA aB aC aD aE aF aG aH aI aJ aK aL aM aN aO aP aQ aR aS aT a4 a5 dA dB dC a17 cN cP cR cS cT cU cV cW cX cY cZ c9 da db dc dd de df dg dh di dj dk dl dq:Value}{Q:Exit->Act->World->Prop}(R n k kb vb:Nat)(bl:Nat->Nat)(M2:Mx)(w w0:World)(hE:Env w)(dK:n<=8)(hk:k<n)(cM:Sn w R n k kb vb bl M2 0 w0)
 (hx:∀(u4 u5 u14 u15 u16 u17 u119 u120 u121 u122 u123 u124 u125 u126 u127 u128 u129 u130 u131 u132 u133 u134 u135 u136 u137 u138 u139 u140 u141 u142 u143 u144:Value)(wq:World),Sn w R n k kb vb bl M2 n wq->Q (.exit 4) ⟨#[c0,c1,c2,c3,u4,u5,c6,c7,c8,.pointer (some ⟨kb,0,none⟩),bd,.pointer (some ⟨vb,0,none⟩),be,bf,u14,u15,u16,u17,bg,bh,bi,bj,bk,bm,bn,bo,bp,bq,br,bs,bt,bu,bv,bx,bz,bA,bB,bC,bD,bE,bF,bG,bH,bI,bJ,bK,bL,bM,bN,bO,bP,bQ,bR,bS,bT,bU,bW,bX,bY,bZ,b0,b1,b2,b3,b4,b5,b6,b7,b8,b9,cc,cd,ce,cf,cg,ch,ci,cj,ck,cl,cm,cn,co,cq,cr,ct,cu,cv,cw,cx,cy,cz,cA,cB,cC,cD,cE,cF,cG,cH,ak,al,am,an,ao,aq,ar,au,av,aw,ax,ay,az,aA,aB,aC,aD,.slice (some ⟨R,0,none⟩) n n,.int .i64 (n:Int),u119,u120,u121,u122,u123,u124,u125,u126,u127,u128,u129,u130,u131,u132,u133,u134,u135,u136,u137,u138,u139,u140,u141,u142,u143,u144,aE,aF,aG,aH,aI,aJ,aK,aL,aM,aN,aO,aP,aQ,aR,aS,aT],[]⟩ wq)
 (hr:∀(u14 u15 u16 u17 u119 u120 u121 u122 u123 u124 u125 u126 u127 u128 u129 u130 u131 u132 u133 u134 u135 u136 u137 u138 u139 u140 u141 u142 u143 u144:Value)(wq:World),Below w.heap.size w wq->AB SQ n k n M2=none->Q .ret ⟨#[c0,c1,c2,c3,.slice none 0 0,.int .i64 2,c6,c7,c8,.pointer (some ⟨kb,0,none⟩),bd,.pointer (some ⟨vb,0,none⟩),be,bf,u14,u15,u16,u17,bg,bh,bi,bj,bk,bm,bn,bo,bp,bq,br,bs,bt,bu,bv,bx,bz,bA,bB,bC,bD,bE,bF,bG,bH,bI,bJ,bK,bL,bM,bN,bO,bP,bQ,bR,bS,bT,bU,bW,bX,bY,bZ,b0,b1,b2,b3,b4,b5,b6,b7,b8,b9,cc,cd,ce,cf,cg,ch,ci,cj,ck,cl,cm,cn,co,cq,cr,ct,cu,cv,cw,cx,cy,cz,cA,cB,cC,cD,cE,cF,cG,cH,ak,al,am,an,ao,aq,ar,au,av,aw,ax,ay,az,aA,aB,aC,aD,.slice (some ⟨R,0,none⟩) n n,.int .i64 (n:Int),u119,u120,u121,u122,u123,u124,u125,u126,u127,u128,u129,u130,u131,u132,u133,u134,u135,u136,u137,u138,u139,u140,u141,u142,u143,u144,aE,aF,aG,aH,aI,aJ,aK,aL,aM,aN,aO,aP,aQ,aR,aS,aT],[]⟩ wq):
 Code.wp prog (Code.loop Wy) Q ⟨#[c0,c1,c2,c3,a4,a5,c6,c7,c8,.pointer (some ⟨kb,0,none⟩),bd,.pointer (some ⟨vb,0,none⟩),be,bf,dA,dB,dC,a17,bg,bh,bi,bj,bk,bm,bn,bo,bp,bq,br,bs,bt,bu,bv,bx,bz,bA,bB,bC,bD,bE,bF,bG,bH,bI,bJ,bK,bL,bM,bN,bO,bP,bQ,bR,bS,bT,bU,bW,bX,bY,bZ,b0,b1,b2,b3,b4,b5,b6,b7,b8,b9,cc,cd,ce,cf,cg,ch,ci,cj,ck,cl,cm,cn,co,cq,cr,ct,cu,cv,cw,cx,cy,cz,cA,cB,cC,cD,cE,cF,cG,cH,ak,al,am,an,ao,aq,ar,au,av,aw,ax,ay,az,aA,aB,aC,aD,.slice (some ⟨R,0,none⟩) n n,.int .i64 (n:Int),.int .i64 0,cN,cP,cR,cS,cT,cU,cV,cW,cX,cY,cZ,c9,da,db,dc,dd,de,df,dg,dh,di,dj,dk,dl,dq,aE,aF,aG,aH,aI,aJ,aK,aL,aM,aN,aO,aP,aQ,aR,aS,aT],[]⟩ w0:=by
 conv=>arg 2;arg 1;whnf
 conv=>arg 4;zeta
 have dJ:k<=8:=by omega
 replace hE:=zh hE;replace cM:=zh cM;replace hx:=zh hx;replace hr:=zh hr
 go_loopw [119] (fun i wq=>∃y:Nat,y<=n/\i=.int .i64 (y:Int)/\Hid (Sn w R n k kb vb bl M2 y wq)) (fun i _=>n-(intOf i).toNat)
 case atStart=>exact⟨0,zO _,rfl,cM.o⟩
 case round=>
  obtain⟨i,hi,rfl,hI⟩:=hrel
  by_cases hlt2:i<n
  .obtain ⟨M3,a8,hM,hO,cJ,dt,a9,dz⟩:=hI.o;clear hI;have c1:=hM.o.hd i hlt2;have c2:=hM.o.lt;have c3:=a9.o.cell;have c4:=a9.o.lt;obtain⟨e1,e2,e3⟩:=(hM.o.rows i hlt2).cell (j:=k) (by omega);have e4:=(hM.o.rows i hlt2).lt;have s2:(k:Int)<(n:Int)+1:=by omega
   have s3:(0:Int)<=(k:Int):=by omega
   obtain⟨fg,fn,fd,aa⟩:=BI (M3 i k);rw[aa]at e1 e2 e3;have aV:=zh (hM.o.alloc (.cells #[.bool fg,.string fn,.string fd] 34));have ai:=zh (a9.o.alloc (.cells #[.bool fg,.string fn,.string fd] 34));have aU:=zh (dt.o.alloc (.cells #[.bool fg,.string fn,.string fd] 34));have aZ:=zh (dz.o.alloc (.cells #[.bool fg,.string fn,.string fd] 34));have ae:=zh (cJ.o.alloc cJ.o.size (.cells #[.bool fg,.string fn,.string fd] 34));have ah:=zh (B3.new wr fg fn fd)
   by_cases hik:i=k
   .have h1:(i==k)=true:=by rw[yL];exact hik
    have h2:((i:Int)==(k:Int))=true:=by rw[yL];omega
    have s:Hid (AB SQ n k (i+1) M2=some M3):=by
     show AB SQ n k (i+1) M2=some M3
     unfold AB;rw[a8.o]
     show Bp SQ n k i M3=some M3
     unfold Bp;rw[zE (.inl hik)]
    replace hik:=zh hik;replace aa:=zh aa
    go_wp2_with fail
    go_quiet (fail)
    go_wp2
    go_roundw
    case rel=>exact⟨i+1,by omega,by go_num,M3,s,aV.o.drewN nq,hO,Bn ae.o nq,aU.o,ai.o,aZ.o⟩
    case measure=>simp[intOf];omega
   have h1:(i==k)=false:=by rw[zJ];exact hik
   have h2:((i:Int)==(k:Int))=false:=by rw[zJ];omega
   have kz:=zh Ii;obtain⟨g1,g2,g3,g4,g5,g6⟩:=ah.o.facts;have k1:=ai.o.cell;have k2:=ai.o.lt;have k3:=ah.o.lt;have aW:Hid ((wr.alloc (.cells #[.bool fg,.string fn,.string fd] 34)).cell? ⟨kb,0,none⟩=some (.int .i64 (k:Int))/\(wr.alloc (.cells #[.bool fg,.string fn,.string fd] 34)).cell? ⟨wr.heap.size,0,none⟩=some (.bool fg)/\(wr.alloc (.cells #[.bool fg,.string fn,.string fd] 34)).cell? ⟨wr.heap.size,1,none⟩=some (.string fn)/\(wr.alloc (.cells #[.bool fg,.string fn,.string fd] 34)).cell? ⟨wr.heap.size,2,none⟩=some (.string fd)):=⟨k1,g1,g2,g3⟩;obtain⟨w4,a6⟩:∃W,W=wr.alloc (.cells #[.bool fg,.string fn,.string fd] 34):=⟨_,rfl⟩;rw[<-a6]at aV ai aU aZ ae ah aW k1 k2 k3 g1 g2 g3 g4 g5 g6;obtain⟨fb,aX⟩:∃x,x=wr.heap.size:=⟨_,rfl⟩;rw[<-aX]at ah aW k3 g1 g2 g3 g4 g5 g6;replace a6:=zh a6;replace aX:=zh aX;replace hik:=zh hik
   go_wp2_with fail
   rw[<-a6.o,<-aX.o];clear c1 c2 c3 c4 e1 e2 e3 e4 hM a9 dz dt cJ a6 aX
   by_cases h0:M3 i k=0
   .have s:Hid (AB SQ n k (i+1) M2=some M3):=by
     show AB SQ n k (i+1) M2=some M3
     unfold AB;rw[a8.o]
     show Bp SQ n k i M3=some M3
     unfold Bp;rw[zE (.inr h0)]
    obtain ⟨rfl,rfl,rfl⟩:fg=false/\fn=⟨#[48]⟩/\fd=⟨#[49]⟩:=by
     rw[h0,rq_zero]at aa;injection aa with a1 a2;injection a2 with a3 a4;exact⟨a1.symm,a3.symm,a4.symm⟩
    replace aa:=zh aa;replace h0:=zh h0
    go_region_held3 (fun w'=>w'.cell? ⟨kb,0,none⟩=some (.int .i64 (k:Int))/\w'.cell? ⟨fb,0,none⟩=some (.bool false)/\w'.cell? ⟨fb,1,none⟩=some (.string ⟨#[48]⟩)/\w'.cell? ⟨fb,2,none⟩=some (.string ⟨#[49]⟩)) (first|(with_reducible exact aW.o)|(exact⟨(d.cell (p:=⟨kb,0,none⟩) k2).trans k1,(d.cell (p:=⟨fb,0,none⟩) k3).trans g1,(d.cell (p:=⟨fb,1,none⟩) k3).trans g2,(d.cell (p:=⟨fb,2,none⟩) k3).trans g3⟩)|go_keep)
     (first
       |(go_at_call 91;refine(kz.o _).q fun w5 d=>?_;replace d:Below w4.heap.size w4 w5:=(zI _ w4).drew.trans d;have ag:=zh (aV.o.below d);have aY:=zh (ai.o.below d);have a7:=zh (aU.o.below d);have aj:=zh (aZ.o.below d);have cK:=zh (ah.o.below d);have af:=ae.t d))
    all_goals (
     go_wp2
     go_roundw
     case rel=>exact⟨i+1,by omega,by go_num,M3,s,ag.o,hO,af.o,a7.o,aY.o,aj.o⟩
     case measure=>simp[intOf];omega
     )
   have hz:(fn.toList==[48])=false:=by
    have:=Nj h0
    rwa [aa]at this
   replace aa:=zh aa
   go_region_held3 (fun w'=>w'.cell? ⟨kb,0,none⟩=some (.int .i64 (k:Int))/\w'.cell? ⟨fb,0,none⟩=some (.bool fg)/\w'.cell? ⟨fb,1,none⟩=some (.string fn)/\w'.cell? ⟨fb,2,none⟩=some (.string fd)) (first|(with_reducible exact aW.o)|(exact⟨(d.cell (p:=⟨kb,0,none⟩) k2).trans k1,(d.cell (p:=⟨fb,0,none⟩) k3).trans g1,(d.cell (p:=⟨fb,1,none⟩) k3).trans g2,(d.cell (p:=⟨fb,2,none⟩) k3).trans g3⟩)|go_keep)
    (first
      |(go_at_call 91;refine(kz.o _).q fun w5 d=>?_;replace d:Below w4.heap.size w4 w5:=(zI _ w4).drew.trans d;have ag:=zh (aV.o.below d);have aY:=zh (ai.o.below d);have a7:=zh (aU.o.below d);have aj:=zh (aZ.o.below d);have cK:=zh (ah.o.below d);have af:=ae.t d))
   clear g1 g2 g3 g4 g5 g6 k1 k2 k3 aW aV ai aU aZ ae ah h1 h2;have ab:=zh (ag.o.rows i hlt2);have ba:=zh (ag.o.low i hlt2);have bc:=zh (cK.o.ne_row ab.o (by omega));have a0:=zh (aj.o.ne_row ab.o);have dx:=zh (aY.o.ne_row ab.o);have ds:=zh (a7.o.ne_row ab.o);have du:Hid (bl k≠bl i):=fun e=>hik.o (ag.o.inj k i hk hlt2 e).symm;have hS:=zh (ag.o.rows k hk);have dr:=zh ((EnvB.of hE.o).below af.o);have bb:Hid (B3 w5 fb (rq (M3 i k)).1 (rq (M3 i k)).2.1 (rq (M3 i k)).2.2):=by rw[aa.o];exact cK.o
   have k1:=aY.o.cell;have s4:¬n+1=k:=by omega
   cases ad:Eh SQ n k i M3 with
   |true=>
    have cL:=(Dy SQ).1 ad
    have kd:=zh (fun cap=>Nf w.heap.size (bl i) k (n+1) cap (fun j=>M3 i j) (M3 i k) (fun j=>M3 k j) fb vb (bl k) (n+1-k) w5 dr.o ba.o ab.o (by omega) (by omega) bb.o bc.o aj.o a0.o hS.o du.o fun j a b=>by
     obtain⟨x1,x2,x3,x4⟩:=cL j a (by omega);exact⟨zf x1,zf x2,zf x3,zf x4⟩)
    have s:Hid (AB SQ n k (i+1) M2=some (CE k i M3)):=by
     show AB SQ n k (i+1) M2=some (CE k i M3)
     unfold AB;rw[a8.o]
     show Bp SQ n k i M3=some (CE k i M3)
     unfold Bp;rw[zC (by rintro(h|h);(· exact hik.o h);(· exact h0 h)),zE ad]
    have dF:Hid (∀i' j,i'<n->j<=n->OkQ (CE k i M3 i' j)):=fun i' j dw hj=>by
     unfold CE
     split
     .rename_i hc;obtain⟨x1,x2,x3,x4⟩:=cL j hc.2 hj;exact OH (zf x3) (zf x4)
     exact hO.o i' j dw hj
    replace h0:=zh h0;clear cL ad hz
    all_goals (
     go_wp2_with fail
     refine(kd.o _).q fun w6 ⟨hg,dy⟩=>?_;have cI:=zh (af.o.trans (By hg ba.o af.o.size))
     have dE:=zh (ag.o.change hlt2 hg (M':=CE k i M3) (dy.congr fun j hj=>by
      unfold CE
      by_cases a1:k<=j
      .rw[zE a1,zE ⟨rfl,a1⟩]
      rw[zC a1,zC fun h=>a1 h.2]) (fun i' dw dH=>by funext j;unfold CE;rw[zC fun h=>dH h.1]))
     have dG:=zh (aY.o.grown hg dx.o);have dD:=zh (a7.o.grown hg ds.o);have dI:=zh (aj.o.grown hg a0.o);clear hg dy k1;go_wp2
     go_roundw
     case rel=>exact⟨i+1,by omega,by go_num,_,s,dE,dF,cI,dD,dG,dI⟩
     case measure=>simp[intOf];omega
     )
   |false=>
    obtain⟨t,t1,t2,t3,t4⟩:=PW ad;have kd:=zh (fun cap=>Ng w.heap.size (bl i) k (n+1) cap (fun j=>M3 i j) (M3 i k) (fun j=>M3 k j) fb vb (bl k) (n+1-k) w5 dr.o ba.o ab.o (by omega) (by omega) bb.o bc.o aj.o a0.o hS.o du.o t t1 (by omega) t3 t4 (fun j a b=>⟨hO.o i j hlt2 (by omega),hO.o k j hk (by omega)⟩) (hO.o i k hlt2 (by omega)))
    have s:Hid (AB SQ n k n M2=none):=by
     refine Jt (i:=i+1) (by omega) ?_;unfold AB;rw[a8.o]
     show Bp SQ n k i M3=none
     unfold Bp;rw[zC (by rintro(h|h);(· exact hik.o h);(· exact h0 h)),zC (by rw[ad];simp)]
    replace h0:=zh h0;clear t1 t2 t3 t4 ad hz
    all_goals (
     go_wp2_with fail
     refine(kd.o _).q fun w6 hg=>?_;have cI:=zh (af.o.trans (By hg ba.o af.o.size));clear hg k1;go_wp2;apply hr.o
     .exact cI.o
     .exact s.o
     )
  obtain rfl:n=i:=by omega
  go_wp2;apply hx.o;exact hI.o
def Bt:Code->List Code
 |.loop c=>Bt c
 |.seq a b=>Bt a++Bt b
 |.block _ c=>Bt c
 |.scope c=>Bt c
 |.cond _ a b=>Bt a++Bt b
 |.region a b c=>[.region a b c]
 |_=>[]
noncomputable def Wz:Code:=((Tryz.f45.body.map Bt).bind fun l=>l[20]?).getD .skip
theorem EV{w:World}{p q:Addr}{x y:Value}(hp:w.cell? p=some x)(hq:w.cell? q=some y)(v:Value):∃u,(w.setCell p v).cell? q=some u:=by
 by_cases e:q=p
 .rw[e];exact⟨v,zr w _ _ hp⟩
 exact⟨y,(zZ w _ _ _ (fun e2=>e (by first|exact e2|exact e2.symm))).trans hq⟩
theorem So{c0 d1 d2 d3 d4 d5 c6 c8 bd be bf bg bh bi bj bk bm bn bo bp bq br bs bt bu bv bx bz bA bB bC bD bE bF bG bH bI bJ bK bL bM bN bO bP bQ bR bS bT bU bW bX bY bZ b0 b1 b2 b3 b4 b5 b6 b7 b8 b9 cc cd ce cf cg ch ci cj ck cl cm cn co cq cr ct cu cv cx cy cz cA cB cC cD cE cF cG cH cI cJ cK cL cM bb bc aa ab ad ae af ag ah ai aj ak al am an ao aq ar au av aw ax ay az aA aB aC aD aE aF aG aH aI aJ aK aL aM aN aO aP aQ aR aS aT aU aV aW aX aY aZ a0 a1 a2 a3 a4 a5 a6 a7 a8 a9 ba:Value}{Q:Exit->Act->World->Prop}(R n k f kb:Nat)(bl:Nat->Nat)(w3:World)
 (c1:w3.cell? ⟨kb,0,none⟩=some (.int .i64 (k:Int)))
 (c2:w3.cell? ⟨R,k+f,none⟩=some (.slice (some ⟨bl (k+f),0,none⟩) (n+1) (n+1)))
 (c3:w3.cell? ⟨R,k,none⟩=some (.slice (some ⟨bl k,0,none⟩) (n+1) (n+1)))
 (c4:w3.frozen? ⟨R,k+f,none⟩=false)(c5:w3.frozen? ⟨R,k,none⟩=false)
 (cw:kb≠R)(cR:n<=8)(cP:k<n)(cS:k+f<n)
 (h:∀u84 u85 u86 u87 u88 u89 u90 u91 u92 u93 u94 u95 u96 u97 u98 u99 u100 u101:Value,Q .normal ⟨#[c0,d1,d2,d3,d4,d5,c6,.slice (some ⟨R,0,none⟩) n n,c8,.pointer (some ⟨kb,0,none⟩),.int .i64 (f:Int),bd,be,bf,bg,bh,bi,bj,bk,bm,bn,bo,bp,bq,br,bs,bt,bu,bv,bx,bz,bA,bB,bC,bD,bE,bF,bG,bH,bI,bJ,bK,bL,bM,bN,bO,bP,bQ,bR,bS,bT,bU,bW,bX,bY,bZ,b0,b1,b2,b3,b4,b5,b6,b7,b8,b9,cc,cd,ce,cf,cg,ch,ci,cj,ck,cl,cm,cn,co,cq,cr,ct,cu,cv,u84,u85,u86,u87,u88,u89,u90,u91,u92,u93,u94,u95,u96,u97,u98,u99,u100,u101,aa,ab,ad,ae,af,ag,ah,ai,aj,ak,al,am,an,ao,aq,ar,au,av,aw,ax,ay,az,aA,aB,aC,aD,aE,aF,aG,aH,aI,aJ,aK,aL,aM,aN,aO,aP,aQ,aR,aS,aT,aU,aV,aW,aX,aY,aZ,a0,a1,a2,a3,a4,a5,a6,a7,a8,a9,ba],[]⟩ (((w3.setCell ⟨R,k,none⟩ (.slice (some ⟨bl (k+f),0,none⟩) (n+1) (n+1))).setCell ⟨R,k+f,none⟩ (.slice (some ⟨bl k,0,none⟩) (n+1) (n+1))).drew)):
 Code.wp prog Wz Q ⟨#[c0,d1,d2,d3,d4,d5,c6,.slice (some ⟨R,0,none⟩) n n,c8,.pointer (some ⟨kb,0,none⟩),.int .i64 (f:Int),bd,be,bf,bg,bh,bi,bj,bk,bm,bn,bo,bp,bq,br,bs,bt,bu,bv,bx,bz,bA,bB,bC,bD,bE,bF,bG,bH,bI,bJ,bK,bL,bM,bN,bO,bP,bQ,bR,bS,bT,bU,bW,bX,bY,bZ,b0,b1,b2,b3,b4,b5,b6,b7,b8,b9,cc,cd,ce,cf,cg,ch,ci,cj,ck,cl,cm,cn,co,cq,cr,ct,cu,cv,cx,cy,cz,cA,cB,cC,cD,cE,cF,cG,cH,cI,cJ,cK,cL,cM,bb,bc,aa,ab,ad,ae,af,ag,ah,ai,aj,ak,al,am,an,ao,aq,ar,au,av,aw,ax,ay,az,aA,aB,aC,aD,aE,aF,aG,aH,aI,aJ,aK,aL,aM,aN,aO,aP,aQ,aR,aS,aT,aU,aV,aW,aX,aY,aZ,a0,a1,a2,a3,a4,a5,a6,a7,a8,a9,ba],[]⟩ w3:=by
 have s0:(0:Int)<=(f:Int):=by omega
 have s7:(0:Int)<=(k:Int):=by omega
 have s1:(0:Int)<=(k:Int)+(f:Int):=by omega
 have s2:(k:Int)+(f:Int)<(n:Int):=by omega
 have s3:(k:Int)<(n:Int):=by omega
 have s4:IntKind.i64.wrap ((k:Int)+(f:Int))=(k:Int)+(f:Int):=yi _ (by omega);have s5:((k:Int)+(f:Int)).toNat=k+f:=by omega
 obtain⟨v1,cT⟩:∃u,(w3.setCell ⟨R,k,none⟩ (.slice (some ⟨bl (k+f),0,none⟩) (n+1) (n+1))).cell? ⟨R,k+f,none⟩=some u:=EV c3 c2 _;obtain⟨v2,cU⟩:∃u,(w3.setCell ⟨R,k+f,none⟩ (.slice (some ⟨bl k,0,none⟩) (n+1) (n+1))).cell? ⟨R,k,none⟩=some u:=EV c2 c3 _
 conv=>arg 2;whnf
 conv=>arg 4;zeta
 replace h:=zh h;have y1:(w3.setCell ⟨R,k,none⟩ (.slice (some ⟨bl (k+f),0,none⟩) (n+1) (n+1))).cell? ⟨kb,0,none⟩=some (.int .i64 (k:Int)):=(zZ w3 _ _ _ (fun e=>cw (congrArg Addr.block e).symm)).trans c1;have y2:((w3.setCell ⟨R,k,none⟩ (.slice (some ⟨bl (k+f),0,none⟩) (n+1) (n+1))).setCell ⟨R,k+f,none⟩ (.slice (some ⟨bl k,0,none⟩) (n+1) (n+1))).cell? ⟨kb,0,none⟩=some (.int .i64 (k:Int)):=(zZ _ _ _ _ (fun e=>cw (congrArg Addr.block e).symm)).trans y1;have cN:Hid (w3.cell? ⟨kb,0,none⟩=some (.int .i64 (k:Int))/\(w3.setCell ⟨R,k,none⟩ (.slice (some ⟨bl (k+f),0,none⟩) (n+1) (n+1))).cell? ⟨kb,0,none⟩=some (.int .i64 (k:Int))/\((w3.setCell ⟨R,k,none⟩ (.slice (some ⟨bl (k+f),0,none⟩) (n+1) (n+1))).setCell ⟨R,k+f,none⟩ (.slice (some ⟨bl k,0,none⟩) (n+1) (n+1))).cell? ⟨kb,0,none⟩=some (.int .i64 (k:Int))):=⟨c1,y1,y2⟩;have z0:w3.drew.cell? ⟨kb,0,none⟩=some (.int .i64 (k:Int)):=c1;have z1:(w3.setCell ⟨R,k,none⟩ (.slice (some ⟨bl (k+f),0,none⟩) (n+1) (n+1))).drew.cell? ⟨kb,0,none⟩=some (.int .i64 (k:Int)):=y1;have z2:((w3.setCell ⟨R,k,none⟩ (.slice (some ⟨bl (k+f),0,none⟩) (n+1) (n+1))).setCell ⟨R,k+f,none⟩ (.slice (some ⟨bl k,0,none⟩) (n+1) (n+1))).drew.cell? ⟨kb,0,none⟩=some (.int .i64 (k:Int)):=y2;clear y1 y2;refine yS ?_;refine yU (S:=(fun w'=>w'.cell? ⟨kb,0,none⟩=some (.int .i64 (k:Int)))) (by kernel_rfl) z0 (fun s=>?_);refine tkfD (v:=?_) 0 rfl (by assumption) (Or.inl ⟨by rfl,?_⟩) ?_;rotate_left
 . (intro w d;(try dsimp only at d);go_simp<;>with_reducible rfl)
 simp only[Act.put,zA];refine tkfD (v:=?_) 1 rfl (by assumption) (Or.inl ⟨by rfl,?_⟩) ?_;rotate_left
 . (intro w d;(try dsimp only at d);go_simp<;>with_reducible rfl)
 simp only[Act.put];refine tkfD (v:=?_) 2 rfl (by assumption) (Or.inl ⟨by rfl,?_⟩) ?_;rotate_left
 . (intro w d;(try dsimp only at d);go_simp<;>with_reducible rfl)
 simp only[Act.put];refine tkfD (v:=?_) 3 rfl (by assumption) (Or.inl ⟨by rfl,?_⟩) ?_;rotate_left
 . (intro w d;(try dsimp only at d);go_simp<;>with_reducible rfl)
 simp only[Act.put];refine tkfD (v:=?_) 4 rfl (by assumption) (Or.inl ⟨by rfl,?_⟩) ?_;rotate_left
 . (intro w d;(try dsimp only at d);go_simp<;>with_reducible rfl)
 simp only[Act.put];refine tkfD (v:=?_) 5 rfl (by assumption) (Or.inl ⟨by rfl,?_⟩) ?_;rotate_left
 . (intro w d;(try dsimp only at d);go_simp<;>with_reducible rfl)
 simp only[Act.put];refine tkfD (v:=?_) 6 rfl (by assumption) (Or.inl ⟨by rfl,?_⟩) ?_;rotate_left
 . (intro w d;(try dsimp only at d);go_simp<;>with_reducible rfl)
 simp only[Act.put];refine tkfD (v:=?_) 7 rfl (by assumption) (Or.inl ⟨by rfl,?_⟩) ?_;rotate_left
 . (intro w d;(try dsimp only at d);go_simp<;>with_reducible rfl)
 simp only[Act.put];refine tkfD (v:=?_) 8 rfl (by assumption) (Or.inl ⟨by rfl,?_⟩) ?_;rotate_left
 . (intro w d;(try dsimp only at d);go_simp<;>with_reducible rfl)
 simp only[Act.put];refine tkfD (v:=?_) 9 rfl (by assumption) (Or.inl ⟨by rfl,?_⟩) ?_;rotate_left
 . (intro w d;(try dsimp only at d);go_simp<;>with_reducible rfl)
 simp only[Act.put];refine tkfD (v:=?_) 10 rfl (by assumption) (Or.inl ⟨by rfl,?_⟩) ?_;rotate_left
 . (intro w d;(try dsimp only at d);go_simp<;>with_reducible rfl)
 simp only[Act.put];refine tkfD (v:=?_) 12 rfl (by assumption) (Or.inl ⟨by rfl,?_⟩) ?_;rotate_left
 . (intro w d;(try dsimp only at d);go_simp<;>with_reducible rfl)
 simp only[Act.put];refine tkfD (v:=?_) 13 rfl (by assumption) (Or.inl ⟨by rfl,?_⟩) ?_;rotate_left
 . (intro w d;(try dsimp only at d);go_simp<;>with_reducible rfl)
 simp only[Act.put];refine tkfD (v:=?_) 14 rfl (by assumption) (Or.inl ⟨by rfl,?_⟩) ?_;rotate_left
 . (intro w d;(try dsimp only at d);go_simp<;>with_reducible rfl)
 simp only[Act.put];refine zP (rs:=[11,15]) (by kernel_rfl) (by simp) ?_;refine zK (o:=_) rfl (fun K hK=>?_) ?_
 .go_simp;refine hK.o _ _ (by with_reducible exact z0) (fun a=>?_);clear hK K s;have s:=a;clear a
  try simp only[Act.put,zA,zG,zF]
  refine zP (rs:=[15]) (by kernel_rfl) (by simp) ?_;refine zK (o:=_) rfl (fun K hK=>?_) ?_
  .go_simp;refine hK.o _ _ (by with_reducible exact z0) (fun a=>?_);clear hK K s;have s:=a;clear a
   try simp only[Act.put,zA,zG,zF]
   refine tkfD (v:=?_) 16 rfl (by assumption) (Or.inl ⟨by rfl,?_⟩) ?_;rotate_left
   . (intro w d;(try dsimp only at d);go_simp<;>with_reducible rfl)
   simp only[Act.put,zA];refine zP (rs:=[17]) (by kernel_rfl) (by simp) ?_;refine zK (o:=_) rfl (fun K hK=>?_) ?_
   .go_simp;refine hK.o _ _ (by with_reducible exact z1) (fun a=>?_);clear hK K s;have s:=a;clear a
    try simp only[Act.put,zA,zG,zF]
    refine tkfD (v:=?_) 18 rfl (by assumption) (Or.inl ⟨by rfl,?_⟩) ?_;rotate_left
    . (intro w d;(try dsimp only at d);go_simp<;>with_reducible rfl)
    simp only[Act.put,zA];refine zP (rs:=[19]) (by kernel_rfl) (by simp) ?_;refine zK (o:=_) rfl (fun K hK=>?_) ?_
    .go_simp;refine hK.o _ _ (by with_reducible exact z2) (fun a=>?_);clear hK K s;have s:=a;clear a
     try simp only[Act.put,zA,zG,zF]
     refine ym (by kernel_rfl) ?_ _;refine yF ?_;exact h.o ..
    exact zN
   exact zN
  exact zN
 refine zK (o:=_) rfl (fun K hK=>?_) ?_
 .go_simp;refine hK.o _ _ (by with_reducible exact z0) (fun a=>?_);clear hK K s;have s:=a;clear a
  try simp only[Act.put,zA,zG,zF]
  refine zP (rs:=[11]) (by kernel_rfl) (by simp) ?_;refine zK (o:=_) rfl (fun K hK=>?_) ?_
  .go_simp;refine hK.o _ _ (by with_reducible exact z0) (fun a=>?_);clear hK K s;have s:=a;clear a
   try simp only[Act.put,zA,zG,zF]
   refine tkfD (v:=?_) 16 rfl (by assumption) (Or.inl ⟨by rfl,?_⟩) ?_;rotate_left
   . (intro w d;(try dsimp only at d);go_simp<;>with_reducible rfl)
   simp only[Act.put,zA];refine zP (rs:=[17]) (by kernel_rfl) (by simp) ?_;refine zK (o:=_) rfl (fun K hK=>?_) ?_
   .go_simp;refine hK.o _ _ (by with_reducible exact z1) (fun a=>?_);clear hK K s;have s:=a;clear a
    try simp only[Act.put,zA,zG,zF]
    refine tkfD (v:=?_) 18 rfl (by assumption) (Or.inl ⟨by rfl,?_⟩) ?_;rotate_left
    . (intro w d;(try dsimp only at d);go_simp<;>with_reducible rfl)
    simp only[Act.put,zA];refine zP (rs:=[19]) (by kernel_rfl) (by simp) ?_;refine zK (o:=_) rfl (fun K hK=>?_) ?_
    .go_simp;refine hK.o _ _ (by with_reducible exact z2) (fun a=>?_);clear hK K s;have s:=a;clear a
     try simp only[Act.put,zA,zG,zF]
     refine ym (by kernel_rfl) ?_ _;refine yF ?_;exact h.o ..
    exact zN
   exact zN
  exact zN
 exact zN
noncomputable def W6:Code:=((Tryz.f45.body.map CZ).bind fun l=>l[1]?).getD .skip
def Nl(w:World)(R n:Nat)(M0:Mx)(y:Nat)(wq:World):Prop :=
 ∃(bl:Nat->Nat)(M:Mx),Hid (Ax SQ n y M0=.ok M)/\Hid (MatW wq w.heap.size R n bl M)/\Hid (∀i j,i<n->j<=n->OkQ (M i j))/\Hid (Below w.heap.size w wq)/\Hid (Int1 wq w.heap.size n)
theorem Nm{c0 c1 c2 c3 c6 c8 aR aS aT aU aV aW aX aY aZ a0 a1 a2 a3 a6 a7 a8 ba bb bc bd be bf bg bh bi bj bk bm bn bo bp bq br bs bt bu bv bx bz bA bB bC bD bE bF bG bH bI bJ bK bL bM bN bO bP ag ah ai aj ak al am an ao aq ar au av aw ax a4 a5 a9 dK dL dM dN dO dP dQ a17 dR dS dT a78 a79 dU dV dW dX dY dZ d0 d1 d2 a89 d3 d4 d5 d6 d7 d8 d9 ea eb ec b9 cc cd ce cf cg ch ci cj ck cl cm cn co cq cr ct cu cv cw cx cy cz cA cB cC cD cE cF cG cH cI cJ cK cL cM cN cP cR cS cT cU cV cW cX cY:Value}{Q:Exit->Act->World->Prop}(R n:Nat)(M0:Mx)(w w0:World)(hE:Env w)(db:n<=8)(b5:w.heap.size≠R)(aG:Nl w R n M0 0 w0)
 (hx:∀(u4 u5 u9 u10 u11 u12 u13 u14 u15 u16 u17 u74 u75 u76 u77 u78 u79 u80 u81 u82 u83 u84 u85 u86 u87 u88 u89 u90 u91 u92 u93 u94 u95 u96 u97 u98 u99 u100 u101 u102 u103 u104 u105 u106 u107 u108 u109 u110 u111 u112 u113 u114 u115 u116 u117 u118 u119 u120 u121 u122 u123 u124 u125 u126 u127 u128 u129 u130 u131 u132 u133 u134 u135 u136 u137 u138 u139 u140 u141 u142 u143 u144 u145:Value) (wq:World),Nl w R n M0 n wq->Q (.exit 2) ⟨#[c0,c1,c2,c3,u4,u5,c6,.slice (some ⟨R,0,none⟩) n n,c8,u9,u10,u11,u12,u13,u14,u15,u16,u17,aR,aS,aT,aU,aV,aW,aX,aY,aZ,a0,a1,a2,a3,a6,a7,a8,ba,bb,bc,bd,be,bf,bg,bh,bi,bj,bk,bm,bn,bo,bp,bq,br,bs,bt,bu,bv,bx,bz,bA,bB,bC,bD,bE,bF,bG,bH,bI,bJ,bK,bL,bM,bN,bO,bP,.int .i64 (n:Int),u74,u75,u76,u77,u78,u79,u80,u81,u82,u83,u84,u85,u86,u87,u88,u89,u90,u91,u92,u93,u94,u95,u96,u97,u98,u99,u100,u101,u102,u103,u104,u105,u106,u107,u108,u109,u110,u111,u112,u113,u114,u115,u116,u117,u118,u119,u120,u121,u122,u123,u124,u125,u126,u127,u128,u129,u130,u131,u132,u133,u134,u135,u136,u137,u138,u139,u140,u141,u142,u143,u144,u145,ag,ah,ai,aj,ak,al,am,an,ao,aq,ar,au,av,aw,ax],[]⟩ wq)
 (hr:∀(er:Int)(u9 u10 u11 u12 u13 u14 u15 u16 u17 u74 u75 u76 u77 u78 u79 u80 u81 u82 u83 u84 u85 u86 u87 u88 u89 u90 u91 u92 u93 u94 u95 u96 u97 u98 u99 u100 u101 u102 u103 u104 u105 u106 u107 u108 u109 u110 u111 u112 u113 u114 u115 u116 u117 u118 u119 u120 u121 u122 u123 u124 u125 u126 u127 u128 u129 u130 u131 u132 u133 u134 u135 u136 u137 u138 u139 u140 u141 u142 u143 u144 u145:Value)(wq:World),Below w.heap.size w wq->Ax SQ n n M0=.error er->Q .ret ⟨#[c0,c1,c2,c3,.slice none 0 0,.int .i64 er,c6,.slice (some ⟨R,0,none⟩) n n,c8,u9,u10,u11,u12,u13,u14,u15,u16,u17,aR,aS,aT,aU,aV,aW,aX,aY,aZ,a0,a1,a2,a3,a6,a7,a8,ba,bb,bc,bd,be,bf,bg,bh,bi,bj,bk,bm,bn,bo,bp,bq,br,bs,bt,bu,bv,bx,bz,bA,bB,bC,bD,bE,bF,bG,bH,bI,bJ,bK,bL,bM,bN,bO,bP,.int .i64 (n:Int),u74,u75,u76,u77,u78,u79,u80,u81,u82,u83,u84,u85,u86,u87,u88,u89,u90,u91,u92,u93,u94,u95,u96,u97,u98,u99,u100,u101,u102,u103,u104,u105,u106,u107,u108,u109,u110,u111,u112,u113,u114,u115,u116,u117,u118,u119,u120,u121,u122,u123,u124,u125,u126,u127,u128,u129,u130,u131,u132,u133,u134,u135,u136,u137,u138,u139,u140,u141,u142,u143,u144,u145,ag,ah,ai,aj,ak,al,am,an,ao,aq,ar,au,av,aw,ax],[]⟩ wq):
 Code.wp prog (Code.loop W6) Q ⟨#[c0,c1,c2,c3,a4,a5,c6,.slice (some ⟨R,0,none⟩) n n,c8,a9,dK,dL,dM,dN,dO,dP,dQ,a17,aR,aS,aT,aU,aV,aW,aX,aY,aZ,a0,a1,a2,a3,a6,a7,a8,ba,bb,bc,bd,be,bf,bg,bh,bi,bj,bk,bm,bn,bo,bp,bq,br,bs,bt,bu,bv,bx,bz,bA,bB,bC,bD,bE,bF,bG,bH,bI,bJ,bK,bL,bM,bN,bO,bP,.int .i64 (n:Int),.int .i64 0,dR,dS,dT,a78,a79,dU,dV,dW,dX,dY,dZ,d0,d1,d2,a89,d3,d4,d5,d6,d7,d8,d9,ea,eb,ec,b9,cc,cd,ce,cf,cg,ch,ci,cj,ck,cl,cm,cn,co,cq,cr,ct,cu,cv,cw,cx,cy,cz,cA,cB,cC,cD,cE,cF,cG,cH,cI,cJ,cK,cL,cM,cN,cP,cR,cS,cT,cU,cV,cW,cX,cY,ag,ah,ai,aj,ak,al,am,an,ao,aq,ar,au,av,aw,ax],[]⟩ w0:=by
 conv=>arg 2;arg 1;whnf
 conv=>arg 4;zeta
 replace hE:=zh hE;replace aG:=zh aG;replace hx:=zh hx;replace hr:=zh hr;replace b5:=zh b5
 go_loopw [74] (fun i wq=>∃y:Nat,y<=n/\i=.int .i64 (y:Int)/\Hid (Nl w R n M0 y wq)) (fun i _=>n-(intOf i).toNat)
 case atStart=>exact⟨0,zO _,rfl,aG.o⟩
 case round=>
  obtain⟨k,hk,rfl,hI⟩:=hrel;have ee:=hI.o;obtain⟨bl,M,hS,hM,hO,ab,c9⟩:=ee
  by_cases hlt:k<n
  .have b4:Hid (Int1 (wr.alloc (.cells #[.int .i64 (k:Int)] 3)) wr.heap.size k):=Int1.new wr k;have bW:=zh (hM.o.alloc (.cells #[.int .i64 (k:Int)] 3));have kx:=zh (fun c=>Sj w.heap.size R n k c wr.heap.size bl M (wr.alloc (.cells #[.int .i64 (k:Int)] 3)) hlt (by omega) bW.o b4.o);have k0:(0:Int)<=(k:Int):=by omega
   have k1:(k:Int)<=(n:Int):=by omega
   have k2:¬n=k:=by omega
   cases hp:Dd n k M (n-k) with
   |none=>
    have aE:IQ n k M=-1:=by unfold IQ;rw[hp]
    have aa:Cb SQ n k M=.error 12:=by unfold Cb;rw[hp]
    have az:=zh (Dz hS.o aa hlt);replace kx:=kx.o;rw[aE]at kx;replace kx:=zh kx;clear hp aE aa
    go_wp2_with fail
    refine(kx.o _).q fun w3 hb=>?_;have aI:=zh ((ab.o.alloc ab.o.size _).trans (hb.mono (ab.o.alloc ab.o.size _).size));clear hb;go_wp2;apply hr.o 12
    .exact aI.o
    exact az.o
   |some p=>
    obtain⟨eu,aO,aP,_⟩:=FP (by omega) hp;obtain⟨f,rfl⟩:∃f,p=k+f:=⟨p-k,by omega⟩;have aE:IQ n k M=(f:Int):=by unfold IQ;rw[hp];show ((k+f-k:Nat):Int)=f;rw[Nat.add_sub_cancel_left]
    replace kx:=kx.o;rw[aE]at kx;replace kx:=zh kx;replace hp:=zh hp;replace aP:=zh aP;clear aE
    go_wp2_with fail
    refine(kx.o _).q fun w3 hb=>?_;have aI:=zh ((ab.o.alloc ab.o.size _).trans (hb.mono (ab.o.alloc ab.o.size _).size));have s:=zh (bW.o.below hb);have bZ:=zh (b4.o.below hb);have cZ:=zh ((c9.o.alloc (.cells #[.int .i64 (k:Int)] 3)).below hb);clear hb;have c1:=bZ.o.cell;have c2:=s.o.hd (k+f) aO;have c3:=s.o.hd k hlt;have c4:=s.o.fr (k+f);have c5:=s.o.fr k;have c6:=s.o.lt;have s0:(0:Int)<=(f:Int):=by omega
    have s1:(0:Int)<=(k:Int)+(f:Int):=by omega
    have s2:(k:Int)+(f:Int)<(n:Int):=by omega
    have s3:(k:Int)<(n:Int):=by omega
    have s4:IntKind.i64.wrap ((k:Int)+(f:Int))=(k:Int)+(f:Int):=yi _ (by omega);have s5:((k:Int)+(f:Int)).toNat=k+f:=by omega
    have b3:wr.heap.size≠R:=wJ hM.o.lt;obtain⟨u1,ej⟩:∃u,(w3.setCell ⟨R,k,none⟩ (.slice (some ⟨bl (k+f),0,none⟩) (n+1) (n+1))).cell? ⟨R,k+f,none⟩=some u:=EV c3 c2 _;obtain⟨u2,ek⟩:∃u,(w3.setCell ⟨R,k+f,none⟩ (.slice (some ⟨bl k,0,none⟩) (n+1) (n+1))).cell? ⟨R,k,none⟩=some u:=EV c2 c3 _
    go_wp2_with fail
    refine So R n k f wr.heap.size bl w3 c1 c2 c3 c4 c5 b3 db hlt aO ?_;intro ey ez eA eB eC eD eE eF eG eH eI eJ eK eL eM eN ep es;have aM:Hid (wr.heap.size≠R/\w.heap.size≠R):=⟨b3,b5.o⟩;have aA:Hid (MatW (((w3.setCell ⟨R,k,none⟩ (.slice (some ⟨bl (k+f),0,none⟩) (n+1) (n+1))).setCell ⟨R,k+f,none⟩ (.slice (some ⟨bl k,0,none⟩) (n+1) (n+1))).drew) w.heap.size R n (GX k (k+f) bl) (AU k (k+f) M)):=(s.o.swap hlt aO).drew;have aC:Hid (Int1 (((w3.setCell ⟨R,k,none⟩ (.slice (some ⟨bl (k+f),0,none⟩) (n+1) (n+1))).setCell ⟨R,k+f,none⟩ (.slice (some ⟨bl k,0,none⟩) (n+1) (n+1))).drew) wr.heap.size k):=(bZ.o.far (p:=⟨R,k,none⟩) aM.o.1 _).far (p:=⟨R,k+f,none⟩) aM.o.1 _;have bQ:Hid (Int1 (((w3.setCell ⟨R,k,none⟩ (.slice (some ⟨bl (k+f),0,none⟩) (n+1) (n+1))).setCell ⟨R,k+f,none⟩ (.slice (some ⟨bl k,0,none⟩) (n+1) (n+1))).drew) w.heap.size n):=(cZ.o.far (p:=⟨R,k,none⟩) aM.o.2 _).far (p:=⟨R,k+f,none⟩) aM.o.2 _;have aJ:Hid (Below w.heap.size w (((w3.setCell ⟨R,k,none⟩ (.slice (some ⟨bl (k+f),0,none⟩) (n+1) (n+1))).setCell ⟨R,k+f,none⟩ (.slice (some ⟨bl k,0,none⟩) (n+1) (n+1))).drew)):=((aI.o.setCell s.o.lowR _).setCell s.o.lowR _).drew;obtain⟨w4,dd⟩:∃W,W=((w3.setCell ⟨R,k,none⟩ (.slice (some ⟨bl (k+f),0,none⟩) (n+1) (n+1))).setCell ⟨R,k+f,none⟩ (.slice (some ⟨bl k,0,none⟩) (n+1) (n+1))).drew:=⟨_,rfl⟩;rw[<-dd]at aA aC bQ aJ ⊢;clear dd ej ek c1 c2 c3 c4 c5 c6 s0 s1 s2 s4 s5 b3 s bZ cZ aI bW b4 kx
    have aL:Hid (∀i j,i<n->j<=n->OkQ (AU k (k+f) M i j)):=fun i j hi hj=>by
     unfold AU
     split
     .exact hO.o _ _ aO hj
     split
     .exact hO.o _ _ hlt hj
     exact hO.o _ _ hi hj
    have af:AU k (k+f) M k k≠0:=by unfold AU;rw[zE rfl];exact aP.o
    have aa:Cb SQ n k M=if Eg SQ n k (AU k (k+f) M)=true then (match AB SQ n k n (Bc k (AU k (k+f) M)) with|some M'=>.ok M' | none=>.error 2) else .error 2:=by
     unfold Cb;rw[hp.o];try rfl
    replace aa:=zh aa;generalize AU k (k+f) M=M1 at *;generalize GX k (k+f) bl=a at *;replace af:=zh af;clear aP hp u1 u2;have c1:=aC.o.cell;have c2:=aA.o.hd k hlt;have c3:=aA.o.lt;have c4:=aC.o.lt;have s0:(k:Int)<=(n:Int)+1:=by omega
    have s1:¬n+1=k:=by omega
    have da:Hid (w4.cell? ⟨wr.heap.size,0,none⟩=some (.int .i64 (k:Int))/\w4.cell? ⟨R,k,none⟩=some (.slice (some ⟨a k,0,none⟩) (n+1) (n+1))):=⟨c1,c2⟩
    go_wp2_with fail
    go_region_held3 (fun w'=>w'.cell? ⟨wr.heap.size,0,none⟩=some (.int .i64 (k:Int))/\w'.cell? ⟨R,k,none⟩=some (.slice (some ⟨a k,0,none⟩) (n+1) (n+1))) (first|(with_reducible exact da.o)|go_keep) (fail)
    have aH:Hid (Blk1 (w4.alloc (.cells #[.slice (some ⟨a k,k*3,none⟩) (n+1-k) (n+1-k)] 27)).drew w4.heap.size (.slice (some ⟨a k,k*3,none⟩) (n+1-k) (n+1-k))):=zo w4 _;have aB:Hid (MatW (w4.alloc (.cells #[.slice (some ⟨a k,k*3,none⟩) (n+1-k) (n+1-k)] 27)).drew w.heap.size R n a M1):=(aA.o.alloc _).drew;have b0:Hid (Int1 (w4.alloc (.cells #[.slice (some ⟨a k,k*3,none⟩) (n+1-k) (n+1-k)] 27)).drew wr.heap.size k):=aC.o.alloc _;have bR:Hid (Int1 (w4.alloc (.cells #[.slice (some ⟨a k,k*3,none⟩) (n+1-k) (n+1-k)] 27)).drew w.heap.size n):=bQ.o.alloc _;have aK:Hid (Below w.heap.size w (w4.alloc (.cells #[.slice (some ⟨a k,k*3,none⟩) (n+1-k) (n+1-k)] 27)).drew):=(aJ.o.alloc aJ.o.size _).drew;obtain⟨w5,de⟩:∃W,W=(w4.alloc (.cells #[.slice (some ⟨a k,k*3,none⟩) (n+1-k) (n+1-k)] 27)).drew:=⟨_,rfl⟩;rw[<-de]at aH aB b0 bR aK ⊢;clear de aA aC bQ aJ c1 c2 c3 c4 s0 da hM ab c9;generalize w4.heap.size=vb at *;generalize wr.heap.size=kb at *;obtain⟨pg,pn,pd,aF⟩:=BI (M1 k k);have e0:=(aB.o.rows k hlt).cell (j:=k) (by omega);rw[aF]at e0;obtain⟨e1,e2,e3⟩:=e0;have e4:=(aB.o.rows k hlt).lt;have v1:=aH.o.cell;have v2:=aH.o.lt;have v3:0<n+1-k:=by omega
    replace aF:=zh aF;have d:=zh (aB.o.alloc (.cells #[.bool pg,.string pn,.string pd] 34));have b1:=zh (b0.o.alloc (.cells #[.bool pg,.string pn,.string pd] 34));have bS:=zh (bR.o.alloc (.cells #[.bool pg,.string pn,.string pd] 34));have b7:=zh (aH.o.alloc (.cells #[.bool pg,.string pn,.string pd] 34));have ad:=zh (aK.o.alloc aK.o.size (.cells #[.bool pg,.string pn,.string pd] 34));have aQ:Hid (B3 (w5.alloc (.cells #[.bool pg,.string pn,.string pd] 34)) w5.heap.size (rq (M1 k k)).1 (rq (M1 k k)).2.1 (rq (M1 k k)).2.2):=by rw[aF.o];exact B3.new w5 _ _ _
    have b6:=zh (aQ.o.ne_row (d.o.rows k hlt) (by omega))
    cases hd:Eg SQ n k M1 with
    |false=>
     obtain⟨t,t1,t2,t3,t4⟩:=PV hd;have kd:=zh (fun c=>Nc w.heap.size (a k) k (n+1) c (fun j=>M1 k j) (M1 k k) w5.heap.size _ ((EnvB.of hE.o).below ad.o) (d.o.low k hlt) (d.o.rows k hlt) (by omega) (by omega) aQ.o b6.o af.o t t1 (by omega) t3 t4 (fun j _ h2=>aL.o k j hlt (by omega)) (aL.o k k hlt (by omega)));rw[hd,zC (by simp)]at aa;have az:=zh (Dz hS.o aa.o hlt);have aN:=zh (d.o.low k hlt);clear t1 t2 t3 t4 hd
     go_wp2_with fail
     refine(kd.o _).q fun w7 hg=>?_;have ay:=zh (ad.o.trans (By hg aN.o ad.o.size));clear hg e1 e2 e3 e4 v1 v2;go_wp2;apply hr.o 2
     .exact ay.o
     exact az.o
    |true=>
     have aD:=(CV SQ).1 hd;have kd:=zh (fun c=>Nb w.heap.size (a k) k (n+1) c (fun j=>M1 k j) (M1 k k) w5.heap.size _ ((EnvB.of hE.o).below ad.o) (d.o.low k hlt) (d.o.rows k hlt) (by omega) (by omega) aQ.o b6.o af.o fun j h1 h2=>⟨zf (aD j h1 (by omega)).1,zf (aD j h1 (by omega)).2⟩);rw[hd,zE rfl]at aa
     have bX:Hid (∀i j,i<n->j<=n->OkQ (Bc k M1 i j)):=fun i j hi hj=>by
      unfold Bc
      split
      .rename_i hc;exact Kd (zf (aD j hc.2 hj).1) (zf (aD j hc.2 hj).2) af.o
      exact aL.o i j hi hj
     have aN:=zh (d.o.low k hlt);clear hd aD
     go_wp2_with fail
     refine(kd.o _).q fun w7 ⟨hg,hr⟩=>?_;have ay:=zh (ad.o.trans (By hg aN.o ad.o.size))
     have bU:=zh (d.o.change hlt hg (M':=Bc k M1) (hr.congr fun j hj=>by
      unfold Bc
      by_cases h1:k<=j
      .rw[zE h1,zE ⟨rfl,h1⟩]
      rw[zC h1,zC fun h=>h1 h.2]) (fun i hi ei=>by funext j;unfold Bc;rw[zC fun h=>ei h.1]))
     have b2:=zh (b1.o.grown hg (b1.o.ne_row (d.o.rows k hlt)));have bT:=zh (bS.o.grown hg (bS.o.ne_row (d.o.rows k hlt)));have b8:=zh (b7.o.grown hg (b7.o.ne_row (d.o.rows k hlt)));clear hg hr e1 e2 e3 e4 v1 v2 kd d b1 bS b7 ad aQ b6 aB b0 bR aH aK aN;generalize Bc k M1=M2 at *;go_wp2;clear aF aL af;refine Nk R n k kb vb a M2 w w7 hE.o db hlt ⟨M2,rfl,bU,bX,ay,bT,b2,b8⟩ ?_ ?_
     .intro z4 z5 el em en eo df dg dh di dj dk dl dq dr ds dt du dw dx dy dz dA dB dC dD dE dF dG dH dI dJ wq hq;obtain⟨M3,eh,s,eg,ed,ef,et,ew⟩:=hq
      have dc:Hid (Ax SQ n (k+1) M0=.ok M3):=by
       show Ax SQ n (k+1) M0=.ok M3
       unfold Ax;rw[hS.o]
       show Cb SQ n k M=.ok M3
       rw[aa.o,eh.o]
      clear bU bX ay bT b2 b8;go_wp2
      go_roundw
      case rel=>exact⟨k+1,by omega,by go_num,a,M3,dc,s,eg,ed,ef⟩
      case measure=>simp[intOf];omega
     intro el em en eo df dg dh di dj dk dl dq dr ds dt du dw dx dy dz dA dB dC dD dE dF dG dH dI dJ wq bY ae;have az:=zh (Dz hS.o (show Cb SQ n k M=.error 2 by rw[aa.o,ae]) hlt);replace bY:=zh bY;replace ae:=zh ae;clear bU bX ay bT b2 b8;go_wp2;apply hr.o 2
     .exact bY.o
     exact az.o
  obtain rfl:n=k:=by omega
  go_wp2;apply hx.o;exact hI.o
theorem Kf:(prog.info? 27).map (fun i=>(i.zero,i.size,i.bytes))=some (some (.slice none 0 0),1,24):=by kernel_rfl
structure MatP(W:World)(B R n i:Nat)(bl:Nat->Nat)(M:Mx):Prop where
 lt:R<W.heap.size
 hd:∀x,x<i->W.cell? ⟨R,x,none⟩=some (.slice (some ⟨bl x,0,none⟩) (n+1) (n+1))
 hz:∀x,i<=x->x<n->W.cell? ⟨R,x,none⟩=some (.slice none 0 0)
 fr:∀x,W.frozen? ⟨R,x,none⟩=false
 rows:∀x,x<i->RowB W (bl x) (n+1) fun j=>rq (M x j)
 inj:∀x y,x<i->y<i->bl x=bl y->x=y
 ne:∀x,x<i->bl x≠R
 lowR:B<=R
 low:∀x,x<i->B<=bl x
theorem MatP.start(w:World){B:Nat}(hB:B<=w.heap.size)(n:Nat)(M:Mx):MatP (w.alloc (.cells (madeCells #[.slice none 0 0] n) 27)) B w.heap.size n 0 (fun _=>0) M:=by
 have h:=zo w (.cells (madeCells #[(.slice none 0 0:Value)] n) 27);refine⟨by simp,fun x h=>absurd h (by omega),fun x _ hx=>?_,fun x=>by simp only[World.frozen?,h];simp,fun x h=>absurd h (by omega),fun x _ h=>absurd h (by omega),fun x h=>absurd h (by omega),hB,fun x h=>absurd h (by omega)⟩;simp only[World.cell?,h];simp[madeCells,hx];rw[xW];rfl
theorem MatP.done{W:World}{B R n:Nat}{bl:Nat->Nat}{M:Mx}(h:MatP W B R n n bl M):MatW W B R n bl M:=⟨h.lt,h.hd,h.fr,h.rows,h.inj,h.ne,h.lowR,h.low⟩
structure Laid(W W':World)(R i:Nat)(v:Value)(m:Nat)(r:Nat->Raw):Prop where
 os:W'.os=W.os
 tape:W'.tape=W.tape
 output:W'.output=W.output
 size:W.heap.size<W'.heap.size
 hd:∀x,W'.cell? ⟨R,x,none⟩=if x=i then some v else W.cell? ⟨R,x,none⟩
 fr:∀x,W'.frozen? ⟨R,x,none⟩=W.frozen? ⟨R,x,none⟩
 new:RowB W' W.heap.size m r
 block:∀k,k<W.heap.size->k≠R->W'.heap[k]? = W.heap[k]?
theorem Laid.start{W:World}{R i m:Nat}{v u:Value}{r:Nat->Raw}(hc:W.cell? ⟨R,i,none⟩=some u)(hR:R<W.heap.size):Laid W ((W.setCell ⟨R,i,none⟩ v).alloc (.cells (AN m r).toArray 34)) R i v m r:=by
 have d:(W.setCell ⟨R,i,none⟩ v).heap.size=W.heap.size:=by simp
 refine⟨rfl,rfl,rfl,by simp,fun x=>?_,fun x=>?_,?_,fun k hk s=>?_⟩
 .rw[zk _ _ _ (by rw[d];exact hR)]
  by_cases e:x=i
  .rw[zE e,e];exact zr W _ _ hc
  rw[zC e,zZ _ _ _ _ (by intro e2;injection e2 with _ e3;first|exact e e3|exact e e3.symm)]
 .have h1:=zu (w:=W.setCell ⟨R,i,none⟩ v) (w':=(W.setCell ⟨R,i,none⟩ v).alloc (.cells (AN m r).toArray 34)) (a:=⟨R,x,none⟩) (yZ _ _ R (by rw[d];exact hR));rw[h1];simp
 .have h:=zo (W.setCell ⟨R,i,none⟩ v) (.cells (AN m r).toArray 34);rw[d]at h;exact h
 exact(yZ _ _ k (by rw[d];exact hk)).trans (zg _ _ _ _ s)
theorem Laid.drew{W W':World}{R i m:Nat}{v:Value}{r:Nat->Raw}(h:Laid W W' R i v m r):Laid W W'.drew R i v m r:=⟨h.os,h.tape,h.output,h.size,h.hd,h.fr,h.new,h.block⟩
theorem Laid.cell{W W':World}{R i m:Nat}{v:Value}{r:Nat->Raw}(h:Laid W W' R i v m r){p:Addr}(hp:p.block<W.heap.size)(a:p.block≠R):W'.cell? p=W.cell? p:=zR (h.block _ hp a)
theorem E8{W:World}{b o n:Nat}{r:Nat->Raw}(h:∀j,j<n->W.cell? ⟨b,o+j*3,none⟩=some (.bool (r j).1)/\W.cell? ⟨b,o+j*3+1,none⟩=some (.string (r j).2.1)/\W.cell? ⟨b,o+j*3+2,none⟩=some (.string (r j).2.2)):
 ∀t v,(AN n r)[t]? = some v->W.cell? ((⟨b,o,none⟩:Addr).add t)=some v:=by
 intro t v hv;have hl:=AH n r;have ht:t<n*3:=by rw[<-hl];exact(List.getElem?_eq_some_iff.1 hv).1
 have h1:=Ch r (m:=n) (j:=t/3) (by omega) (t%3) (by omega);rw[show t/3*3+t%3=t by omega,hv]at h1;have ha:(⟨b,o,none⟩:Addr).add t=⟨b,o+t,none⟩:=by unfold Addr.add;split<;>simp_all
 rw[ha];obtain⟨c1,c2,c3⟩:=h (t/3) (by omega);have h6:t%3=0\/t%3=1\/t%3=2:=by omega
 rcases h6 with h6|h6|h6
 .rw[h6]at h1;rw[show t=t/3*3 by omega,c1];simpa [CI] using h1.symm
 .rw[h6]at h1;rw[show o+t=o+t/3*3+1 by omega,c2];simpa [CI] using h1.symm
 rw[h6]at h1;rw[show o+t=o+t/3*3+2 by omega,c3];simpa [CI] using h1.symm
theorem Gi(n:Nat)(r:Nat->Raw):∀v∈AN n r,v.oneCell'=true:=by
 intro v hv;unfold AN at hv;rw[List.mem_flatMap]at hv;obtain⟨j,_,hj⟩:=hv;simp only[CI,xP,xD,vS]at hj
 rcases hj with rfl|rfl|rfl<;>rfl
theorem PX(n:Nat)(r:Nat->Raw)(z:Raw):AN n r++(AN (n+1) fun _=>z).drop (AN n r).length=AN (n+1) fun j=>if j<n then r j else z:=by
 have h1:=AH n r;have h2:=AH n fun _=>z;rw[Br n fun _=>z,Br,h1,<-h2,List.drop_left,zC (by omega)]
 congr 1
 exact D9 fun j hj=>(zE hj).symm
theorem Laid.copy{W W':World}{R i n:Nat}{v:Value}{z:Raw}(h:Laid W W' R i v (n+1) fun _=>z)(hR:R<W.heap.size)(r:Nat->Raw):
 Laid W (W'.setRow W.heap.size (AN n r++(AN (n+1) fun _=>z).drop (AN n r).length).toArray) R i v (n+1) fun j=>if j<n then r j else z:=by
 have s:R≠W.heap.size:=by omega
 have ho:=setRow_other W' W.heap.size R (AN n r++(AN (n+1) fun _=>z).drop (AN n r).length).toArray s;refine⟨h.os,h.tape,h.output,by have:=h.size;simpa [World.setRow] using this,fun x=>?_,fun x=>?_,?_,fun k hk d=>?_⟩
 .exact(zR (a:=⟨R,x,none⟩) ho).trans (h.hd x)
 .exact(zu (a:=⟨R,x,none⟩) ho).trans (h.fr x)
 .have:=setRow_heap W' W.heap.size (AN (n+1) fun _=>z).toArray (AN n r++(AN (n+1) fun _=>z).drop (AN n r).length).toArray 34 (0,0) h.new;unfold RowB;rw[this,PX]
 exact(setRow_other W' W.heap.size k _ (by omega)).trans (h.block k hk d)
theorem Laid.store{W W':World}{R i n:Nat}{v:Value}{r:Nat->Raw}(h:Laid W W' R i v (n+1) r)(hR:R<W.heap.size)(x:Raw):
 Laid W ((((W'.setCell ⟨W.heap.size,n*3,none⟩ (.bool x.1)).setCell ⟨W.heap.size,n*3+1,none⟩ (.string x.2.1)).setCell ⟨W.heap.size,n*3+2,none⟩ (.string x.2.2)).drew) R i v (n+1) fun j=>if j=n then x else r j:=by
 have ho:∀k,k≠W.heap.size->(((W'.setCell ⟨W.heap.size,n*3,none⟩ (.bool x.1)).setCell ⟨W.heap.size,n*3+1,none⟩ (.string x.2.1)).setCell ⟨W.heap.size,n*3+2,none⟩ (.string x.2.2)).drew.heap[k]? = W'.heap[k]?:=fun k hk=>
  ((zg _ _ _ _ (by exact hk)).trans (zg _ _ _ _ (by exact hk))).trans (zg _ _ _ _ (by exact hk))
 refine⟨h.os,h.tape,h.output,by have:=h.size;simpa using this,fun y=>?_,fun y=>?_,h.new.set (by omega) x,fun k hk d=>?_⟩
 .exact(zR (a:=⟨R,y,none⟩) (ho R (by omega))).trans (h.hd y)
 .exact(zu (a:=⟨R,y,none⟩) (ho R (by omega))).trans (h.fr y)
 exact(ho k (by omega)).trans (h.block k hk d)
theorem Laid.congr{W W':World}{R i m:Nat}{v:Value}{r s:Nat->Raw}(h:Laid W W' R i v m r)(e:∀j,j<m->r j=s j):Laid W W' R i v m s:=⟨h.os,h.tape,h.output,h.size,h.hd,h.fr,h.new.congr e,h.block⟩
theorem Laid.bel{w W W':World}{R i m:Nat}{v:Value}{r:Nat->Raw}(h:Laid W W' R i v m r)(hb:Below w.heap.size w W)(hR:w.heap.size<=R):Below w.heap.size w W' :=
 ⟨h.os.trans hb.os,h.tape.trans hb.tape,h.output.trans hb.output,by have:=hb.size;have:=h.size;omega,fun k hk=>(h.block k (by have:=hb.size;omega) (by omega)).trans (hb.block k hk)⟩
theorem MatP.step{W W':World}{B R n i:Nat}{bl:Nat->Nat}{M:Mx}(h:MatP W B R n i bl M)(hB:B<=W.heap.size)
 (hL:Laid W W' R i (.slice (some ⟨W.heap.size,0,none⟩) (n+1) (n+1)) (n+1) fun j=>rq (M i j)):MatP W' B R n (i+1) (fun x=>if x=i then W.heap.size else bl x) M:=by
 have a:∀x,x<i->bl x<W.heap.size:=fun x hx=>(h.rows x hx).lt;refine⟨by have:=h.lt;have:=hL.size;omega,fun x hx=>?_,fun x h1 h2=>?_,fun x=>(hL.fr x).trans (h.fr x),fun x hx=>?_,fun x y hx hy e=>?_,fun x hx=>?_,h.lowR,fun x hx=>?_⟩
 .rw[hL.hd]
  by_cases e:x=i
  .rw[zE e,zE e]
  rw[zC e,zC e];exact h.hd x (by omega)
 .rw[hL.hd,zC (by omega)];exact h.hz x (by omega) h2
 .by_cases e:x=i
  .rw[zE e,e];exact hL.new
  rw[zC e];exact(hL.block _ (a x (by omega)) (h.ne x (by omega))).trans (h.rows x (by omega))
 .by_cases e1:x=i
  .by_cases e2:y=i
   .omega
   rw[zE e1,zC e2]at e;have:=a y (by omega);omega
  by_cases e2:y=i
  .rw[zC e1,zE e2]at e;have:=a x (by omega);omega
  rw[zC e1,zC e2]at e;exact h.inj x y (by omega) (by omega) e
 .by_cases e:x=i
  .rw[zE e];have:=h.lt;omega
  rw[zC e];exact h.ne x (by omega)
 by_cases e:x=i
 .rw[zE e];exact hB
 rw[zC e];exact h.low x (by omega)
theorem Ft(w:World)(a:Bool)(b c:ByteArray)(t:TypeId):∀j u,(CI (a,b,c))[j]? = some u->(w.alloc (.cells #[.bool a,.string b,.string c] t)).cell? (Addr.add ⟨w.heap.size,0,none⟩ j)=some u:=by
 intro j u hj
 match j,hj with
 |0,hj=>simp[CI]at hj;subst hj;simp[Addr.add]
 |1,hj=>simp[CI]at hj;subst hj;simp[Addr.add]
 |2,hj=>simp[CI]at hj;subst hj;simp[Addr.add]
 |j+3,hj=>simp[CI]at hj
theorem DC(x:Raw):∀u∈CI x,u.oneCell'=true:=by
 intro u hu;simp[CI]at hu
 rcases hu with rfl|rfl|rfl<;>rfl
theorem Ij{w:World}{B B':Nat}{t:TypeId}{size:Nat}{v:Value}{n:Nat}{xs:List Value}(hb:B<=B')(h:w.ownsRow B' t size v n xs):w.ownsRow B t size v n xs:=by
 obtain⟨h1,h2⟩:=h;refine⟨h1,?_⟩
 rcases h2 with h2|⟨g,cap,cur,hv,hg,hh⟩
 .exact .inl h2
 exact .inr ⟨g,cap,cur,hv,zV hb hg,hh⟩
theorem PY(Aa Ab:Option Addr)(n ca cb:Nat)(la:List RowH)(lb:List Raw)(M0:Mx)(w:World)(hE:Env w)(ha:la.length=n)(ae:lb.length=n)(hs:SysIn w Aa Ab la lb)(hv:allV lb=true)(hm:Dm n la=true)(aB:n<=8)
 (an:∀i (h:i<la.length),la[i].2.2.length=n/\∀j (h2:j<la[i].2.2.length),la[i].2.2[j]=rq (M0 i j))(ao:∀i (h:i<lb.length),lb[i]=rq (M0 i n))(aq:∀i j,i<n->j<=n->OkQ (M0 i j)):
 Calls prog 45 #[.slice Aa n ca,.slice Ab n cb] w (Fs n M0 w):=by
 have kv:=DB Ab cb lb (nW w n) (hE.below (BN _ _)) (hs.below (BN _ _)).mb hs.nb hs.zb;have ka:=fun W (h1:Env W) (h2:Int1 W w.heap.size n) (h3:SysIn W Aa Ab la lb)=>G9 n Aa ca la w.heap.size W h1 h2 h3.ma h3.na h3.za;have a3:=xG (P:=prog) 77 27 (.slice none 0 0) 24 underlying77 Kf rfl .i64 .i64 n (by omega) (by omega);rw[hv,ae]at kv;rw[hm,ha]at ka;replace kv:=zh kv;replace ka:=zh ka;replace hs:=zh hs;replace hE:=zh hE;replace an:=zh an;replace aq:=zh aq;replace ao:=zh ao;replace ha:=zh ha;replace ae:=zh ae;clear hv hm;go_enter func45,ntmps45
 go_wp2_with fail
 refine kv.o.q fun w1 hb=>?_;have hB:=zh ((BN w n).trans (hb.mono (by simp)));have hn:=zh ((Int1.new w n).below hb);clear hb
 go_wp2_with fail
 refine(ka.o _ (hE.o.below hB.o) hn.o (hs.o.below hB.o)).q fun w2 hb=>?_;have ak:=hB.t hb;have aA:=zh (hn.o.below hb);have c1:=aA.o.cell;have c2:=aA.o.lt;have c3:Hid (Int1 (w2.alloc (.cells (madeCells #[(.slice none 0 0:Value)] n) 27)) w.heap.size n):=aA.o.alloc _;have hP:Hid (MatP (w2.alloc (.cells (madeCells #[(.slice none 0 0:Value)] n) 27)) w.heap.size w2.heap.size n 0 (fun _=>0) M0):=MatP.start w2 ak.o.size n M0;have aI:Hid (Below w.heap.size w (w2.alloc (.cells (madeCells #[(.slice none 0 0:Value)] n) 27))):=ak.o.alloc ak.o.size _;clear hb;go_wp2;obtain⟨R,hR⟩:∃R,R=w2.heap.size:=⟨_,rfl⟩;rw[<-hR]at hP ⊢;have aC:Hid (w.heap.size≠R):=by rw[hR];exact yb c2
 clear a3 c1 c2;replace hR:=zh hR;have ag:=DA 27 underlying27 (n+1) (by omega);rw[show ((n+1:Nat):Int)=(n:Int)+1 by omega]at ag
 go_loopw [43] (fun i wr=>∃(y:Nat)(bl:Nat->Nat),y<=n/\i=.int .i64 (y:Int)/\Hid (MatP wr w.heap.size R n y bl M0)/\Hid (Below w.heap.size w wr)/\Hid (Int1 wr w.heap.size n)) (fun i _=>n-(intOf i).toNat)
 case atStart=>exact⟨0,_,zO _,rfl,hP,aI,c3⟩
 case round=>
  obtain⟨i,bl,hi,rfl,hQ,a,aa⟩:=hrel
  by_cases hlt:i<n
  .obtain ⟨ba,oa,rfl,aZ,aM⟩:=hs.o.ma (by rw[ha.o];omega);obtain⟨bb,ob,rfl,ax,aN⟩:=hs.o.mb (by rw[ae.o];omega);obtain⟨a1,aj⟩:=aM i (by rw[ha.o];exact hlt);obtain⟨b1,b2,b3⟩:=aN i (by rw[ae.o];exact hlt);clear aM aN;obtain⟨hl,aR⟩:=an.o i (by rw[ha.o];exact hlt);obtain⟨bx,ox,aL,a0,aO⟩:=aj (by rw[hl];omega);rw[hl,aL]at a1
   have aP:Hid (∀j,j<n->w.cell? ⟨bx,ox+j*3,none⟩=some (.bool (rq (M0 i j)).1)/\w.cell? ⟨bx,ox+j*3+1,none⟩=some (.string (rq (M0 i j)).2.1)/\w.cell? ⟨bx,ox+j*3+2,none⟩=some (.string (rq (M0 i j)).2.2)):=fun j hj=>by
    have h1:=aO j (by rw[hl];exact hj);rw[aR j (by rw[hl];exact hj)]at h1;exact h1
   rw[ao.o i (by rw[ae.o];exact hlt)]at b1 b2 b3;clear hl aR aL aO aj;generalize (la[i]'(by rw[ha.o];exact hlt)).2.1=ci at *;replace a1:=(a.o.cell (p:=⟨ba,oa+i,none⟩) aZ).trans a1;replace b1:=(a.o.cell (p:=⟨bb,ob+i*3,none⟩) ax).trans b1;replace b2:=(a.o.cell (p:=⟨bb,ob+i*3+1,none⟩) ax).trans b2;replace b3:=(a.o.cell (p:=⟨bb,ob+i*3+2,none⟩) ax).trans b3;have i0:(0:Int)<=(i:Int):=by omega
   have i1:(i:Int)<(n:Int):=by omega
   have r1:=hQ.o.hz i (zB _) hlt;have r2:=hQ.o.fr i;have r3:=hQ.o.lt;have n1:=aa.o.cell;have n2:=aa.o.lt
   go_wp2_with fail
   obtain⟨W1,av⟩:∃W,W=(wr.setCell ⟨R,i,none⟩ (.slice (some ⟨wr.heap.size,0,none⟩) (n+1) (n+1))).alloc (.cells (AN (n+1) fun _=>zraw).toArray 34):=⟨_,rfl⟩;rw[<-av];have af:Hid (Laid wr W1 R i (.slice (some ⟨wr.heap.size,0,none⟩) (n+1) (n+1)) (n+1) fun _=>zraw):=by rw[av];exact Laid.start r1 r3
   have aS:=hQ.o.lowR;have d1:W1.cell? ⟨R,i,none⟩=some (.slice (some ⟨wr.heap.size,0,none⟩) (n+1) (n+1)):=(af.o.hd i).trans (zE rfl);have a4:=a.o.size;have d2:=(af.o.cell (p:=⟨ba,oa+i,none⟩) (by show ba<_;omega) (by show ba≠R;omega)).trans a1
   have a2:∀ty,(Builtin.copy_ #[27,27] ty #[.slice (some ⟨wr.heap.size,0,none⟩) (n+1) (n+1),.slice (some ⟨bx,ox,none⟩) n ci]).run prog W1.drew=.ok (goInt n) (W1.drew.setRow wr.heap.size (AN n (fun j=>rq (M0 i j))++(AN (n+1) fun _=>zraw).drop (AN n (fun j=>rq (M0 i j))).length).toArray):=fun ty=>
    MZ W1.drew _ _ ty wr.heap.size (n+1) (n+1) ⟨bx,ox,none⟩ n ci (AN (n+1) fun _=>zraw) (AN n fun j=>rq (M0 i j)) underlying27 af.o.drew.new (AH _ _) (by omega)
     (E8 fun j hj=>by
       obtain⟨k1,k2,k3⟩:=aP.o j hj;have q:∀o,W1.drew.cell? ⟨bx,o,none⟩=w.cell? ⟨bx,o,none⟩:=fun o=>(af.o.cell (p:=⟨bx,o,none⟩) (by show bx<_;omega) (by show bx≠R;omega)).trans (a.o.cell (p:=⟨bx,o,none⟩) a0);exact⟨(q _).trans k1,(q _).trans k2,(q _).trans k3⟩) (by rw[AH,AH];omega) (Gi _ _)
   have d:=zh (af.o.drew.copy r3 (fun j=>rq (M0 i j)));clear av ag a1 r1 r2;generalize (AN n (fun j=>rq (M0 i j))++(AN (n+1) fun _=>zraw).drop (AN n (fun j=>rq (M0 i j))).length).toArray=cells2 at *;go_region;obtain⟨W2,aK⟩:∃W,W=W1.drew.setRow wr.heap.size cells2:=⟨_,rfl⟩;rw[<-aK]at d ⊢;clear aK a2 d1 d2;have d1:W2.cell? ⟨R,i,none⟩=some (.slice (some ⟨wr.heap.size,0,none⟩) (n+1) (n+1)):=(d.o.hd i).trans (zE rfl);have d2:=d.o.block w.heap.size (by omega) aC.o;have aW:Hid (Int1 W2 w.heap.size n):=d2.trans aa.o;clear d2 n1;have n1:=aW.o.cell;replace b1:=(d.o.cell (p:=⟨bb,ob+i*3,none⟩) (by show bb<_;omega) (by show bb≠R;omega)).trans b1;replace b2:=(d.o.cell (p:=⟨bb,ob+i*3+1,none⟩) (by show bb<_;omega) (by show bb≠R;omega)).trans b2;replace b3:=(d.o.cell (p:=⟨bb,ob+i*3+2,none⟩) (by show bb<_;omega) (by show bb≠R;omega)).trans b3;obtain⟨z1,z2,z3⟩:=d.o.new.cell (j:=n) (by omega);rw[zC (by omega)]at z1 z2 z3;have f1:=d.o.new.frozen (n*3);have f2:=d.o.new.frozen (n*3+1);have f3:=d.o.new.frozen (n*3+2);have j0:(0:Int)<=(n:Int):=by omega
   have j1:(n:Int)<(n:Int)+1:=by omega
   have l1:=d.o.new.lt
   go_wp2_with fail
   go_region
   have ar:=zh ((d.o.store r3 (rq (M0 i n))).congr (s:=fun j=>rq (M0 i j)) fun j hj=>by
    by_cases e:j=n
    .rw[zE e,e]
    rw[zC e,zE (by omega)])
   have aY:=zh (hQ.o.step a4 ar.o);have aV:=zh (ar.o.bel a.o aS);have aX:=zh ((ar.o.block w.heap.size (by omega) aC.o).trans aa.o);go_wp2
   go_roundw
   case rel=>exact⟨i+1,_,by omega,by go_num,aY,aV,aX⟩
   case measure=>simp[intOf];omega
  obtain rfl:n=i:=by omega
  have aJ:=zh hQ.o.done;clear hQ;go_wp2;have aB:n<=8:=aB;clear hP aI c3 hlt ag;refine Nm R n M0 w _ hE.o aB aC.o ⟨bl,M0,rfl,aJ,aq,a,aa⟩ ?_ ?_
  .intro u4 u5 u9 u10 u11 u12 u13 u14 u15 u16 u17 u74 u75 u76 u77 u78 u79 u80 u81 u82 u83 u84 u85 u86 u87 u88 u89 u90 u91 u92 u93 u94 u95 u96 u97 u98 u99 u100 u101 u102 u103 u104 u105 u106 u107 u108 u109 u110 u111 u112 u113 u114 u115 u116 u117 u118 u119 u120 u121 u122 u123 u124 u125 u126 u127 u128 u129 u130 u131 u132 u133 u134 u135 u136 u137 u138 u139 u140 u141 u142 u143 u144 u145 wq hq;clear aJ a aa;obtain⟨ad,M,hS,hM,hO,a,aa⟩:=hq;have aD:=a.o.size;have al:=aa.o.cell;have am:=aa.o.lt;have au:=hM.o.lt;obtain⟨i0,az,aU⟩:=Option.map_eq_some_iff.1 infoQ;simp only[Prod.mk.injEq]at aU;obtain⟨aF,aG,aH⟩:=aU;go_wp2;replace az:=zh az;replace aF:=zh aF;replace aG:=zh aG;replace aH:=zh aH
   go_loopw [18,148] (fun v i wz=>∃y:Nat,y<=n/\i=.int .i64 (y:Int)/\Hid (wz.ownsRow wq.heap.size 34 3 v y (AN y fun i=>rq (M i n)))/\Hid (Below wq.heap.size wq wz)) (fun _ i _=>n-(intOf i).toNat)
   case atStart=>exact⟨0,zO _,rfl,zq _ _ _ _,zI _ _⟩
   case round=>
    obtain⟨y,hy,rfl,ah,ab⟩:=hrel
    by_cases hlt9:y<n
    .have g1:=(ab.o.cell (p:=⟨R,y,none⟩) au).trans (hM.o.hd y hlt9);obtain⟨e1,e2,e3⟩:=(hM.o.rows y hlt9).cell (j:=n) (by omega);have e4:=(hM.o.rows y hlt9).lt;replace e1:=(ab.o.cell (p:=⟨ad y,n*3,none⟩) e4).trans e1;replace e2:=(ab.o.cell (p:=⟨ad y,n*3+1,none⟩) e4).trans e2;replace e3:=(ab.o.cell (p:=⟨ad y,n*3+2,none⟩) e4).trans e3;have g2:=(ab.o.cell (p:=⟨w.heap.size,0,none⟩) am).trans al;have g3:(n:Int)<(n:Int)+1:=by omega
     have g4:(0:Int)<=(n:Int):=by omega
     have g5:(0:Int)<=(y:Int):=by omega
     have g6:(y:Int)<(n:Int):=by omega
     have aT:=ab.o.size;clear e4 aD al am au;obtain⟨rv,ai⟩:∃x,x=rq (M y n):=⟨_,rfl⟩;rw[<-ai]at e1 e2 e3;obtain⟨ra,rb,rc⟩:=rv;replace ai:=zh ai;replace e1:wr.cell? ⟨ad y,n*3,none⟩=some (.bool ra):=e1;replace e2:wr.cell? ⟨ad y,n*3+1,none⟩=some (.string rb):=e2;replace e3:wr.cell? ⟨ad y,n*3+2,none⟩=some (.string rc):=e3
     go_wp2_with (at_builtin;refine xT _ rfl _ _ 27 rfl wq.heap.size 34 i0 (.agg #[.bool false,.string ⟨#[]⟩,.string ⟨#[]⟩]) 3 40 underlying27 az.o aF.o aG.o aH.o rfl (by decide) u18 y (AN y fun i=>rq (M i n)) rfl (ah.o.alloc _) ⟨wr.heap.size,0,none⟩ 1 1 (CI (ra,rb,rc)) rfl rfl (Ft _ _ _ _ _) (DC _) (by unfold maxLen;omega) (by omega) (by simp;omega) ?_;intro v2 w2 aE aQ _)
     refine⟨⟨y+1,by omega,by go_num,?_,(ab.o.alloc aT _).grown aQ (by simp;omega) (fun b e=>(ah.o.lt b e).1)⟩,by simp only[intOf];omega⟩;rw[Br,<-ai.o];exact aE
    obtain rfl:n=y:=by omega
    clear al am au;go_wp2;go_ret2;exact⟨a.o.trans (ab.o.mono aD),.inl ⟨M,_,hS.o,rfl,Ij aD ah.o⟩⟩
  intro er u9 u10 u11 u12 u13 u14 u15 u16 u17 u74 u75 u76 u77 u78 u79 u80 u81 u82 u83 u84 u85 u86 u87 u88 u89 u90 u91 u92 u93 u94 u95 u96 u97 u98 u99 u100 u101 u102 u103 u104 u105 u106 u107 u108 u109 u110 u111 u112 u113 u114 u115 u116 u117 u118 u119 u120 u121 u122 u123 u124 u125 u126 u127 u128 u129 u130 u131 u132 u133 u134 u135 u136 u137 u138 u139 u140 u141 u142 u143 u144 u145 wq aw ay;replace aw:=zh aw;replace ay:=zh ay;go_ret2;exact⟨aw.o,.inr ⟨er,ay.o,rfl⟩⟩
theorem OJ{a b:ByteArray}(h:a.toList=b.toList):a=b:=by
 rw[yP,yP]at h
 cases a;cases b;exact congrArg ByteArray.mk (Array.toList_inj.1 h)
def mx(l:List (List Rat)):Mx:=fun i j=>(l.getD i []).getD j 0
def V4(n:Nat)(l:List (List Rat))(x:List Rat):Bool :=
 match Ax SQ n n (mx l) with
 |.ok M=>(List.range n).map (fun i=>M i n)==x
 |.error _=>false
def W7(n:Nat)(l:List (List Rat))(e:Int):Bool :=
 match Ax SQ n n (mx l) with
 |.ok _=>false
 |.error f=>f==e
theorem Ln:V4 1 [[2,1]] [1/2]=true:=by decide +kernel
theorem UY:V4 2 [[1,1,3],[1,-1,1]] [2,1]=true:=by decide +kernel
theorem UZ:V4 2 [[0,1,5],[1,0,1/3]] [1/3,5]=true:=by decide +kernel
theorem Va:W7 2 [[1,1,3],[2,2,6]] 12=true:=by decide +kernel
def vq(x:Raw):Rat:=mkRat (sg x.1 (val x.2.1)) (val x.2.2)
theorem Sp(q:Rat):vq (rq q)=q:=by
 show mkRat (sg (decide (q.num<0)) (val (T (some q.num.natAbs)))) (val (T (some q.den)))=q
 have h:∀n,val (T (some n))=n:=fun n=>Bu n;rw[h,h,Cz];exact Rat.mkRat_self q
theorem E9{x:Raw}(h:Cr x=true):rq (vq x)=x/\OkQ (vq x):=by
 obtain⟨q,hq,h1,h2,h3⟩:=KY h
 have e:x=rq q:=by
  obtain⟨a,b,c⟩:=x;simp only[rq];simp only at h1 h2 h3;rw[h1,h2,h3]
 rw[e,Sp];exact⟨rfl,hq⟩
theorem OK{q:Rat}(h:OkQ q):Cr (rq q)=true:=AY h
def EA(A:List (List Raw))(b:List Raw):Mx:=fun i j=>if j=b.length then vq (b.getD i zraw) else vq ((A.getD i []).getD j zraw)
def AJ(la:List RowH):List (List Raw):=la.map (·.2.2)
theorem AD(la:List RowH):(AJ la).length=la.length:=by simp[AJ]
theorem CW(la:List RowH)(i:Nat)(h:i<la.length):(AJ la)[i]'(by simpa [AJ] using h)=la[i].2.2:=by simp[AJ]
def Ik(n:Nat)(A:List (List Raw)):Bool:=A.all fun r=>rowOk n r
theorem CA(n:Nat)(la:List RowH):Ik n (AJ la)=Dm n la:=by
 unfold Ik AJ Dm;rw[List.all_map];rfl
theorem GA{n:Nat}{l:List Raw}:rowOk n l=true<->l.length=n/\allV l=true:=by
 unfold rowOk;rw[yI,yN]
theorem Il{n:Nat}{A:List (List Raw)}:Ik n A=true<->∀i (h:i<A.length),A[i].length=n/\allV A[i]=true:=by
 unfold Ik;rw[xe];constructor
 .intro h i hi;exact GA.1 (h _ (zQ hi))
 intro h x hx;obtain⟨i,hi,rfl⟩:=zl hx;exact GA.2 (h i hi)
theorem Cs{l:List Raw}:allV l=true<->∀i (h:i<l.length),Cr l[i]=true:=by
 unfold allV;rw[xe];constructor
 .intro h i hi;exact h _ (zQ hi)
 intro h x hx;obtain⟨i,hi,rfl⟩:=zl hx;exact h i hi
def B5(n:Nat)(f:Nat->Rat):List Raw:=(List.range n).map fun i=>rq (f i)
theorem Aq(n:Nat)(f:Nat->Rat):(B5 n f).length=n:=by simp[B5]
theorem Ej(n:Nat)(f:Nat->Rat)(i:Nat)(h:i<(B5 n f).length):(B5 n f)[i]=rq (f i):=by simp[B5]
theorem Nn{n:Nat}{f g:Nat->Rat}(h:∀i,i<n->f i=g i):B5 n f=B5 n g:=by
 unfold B5;exact yX fun i hi=>by rw[h i (List.mem_range.1 hi)]
def C5(A:List (List Raw))(b:List Raw):Except Int (List Raw) :=
 if A.length=b.length/\allV b=true/\Ik b.length A=true then
  (if b.length<=8 then (match Ax SQ b.length b.length (EA A b) with|.ok M=>.ok (B5 b.length fun i=>M i b.length)|.error e=>.error e) else .error 2)
 else .error 1
theorem BV{w:World}{base:Nat}{v:Value}{n:Nat}{r:Nat->Raw}(h:w.ownsRow base 34 3 v n (AN n r)):
 ∃A c,v=.slice A n c/\InRow w A ((List.range n).map r):=by
 rcases h.2 with⟨rfl,rfl⟩|⟨g,cap,cur,rfl,hb,hg,h4,h5,h6,h7⟩
 .exact⟨none,0,rfl,fun h0=>absurd h0 (by simp)⟩
 refine⟨some ⟨g,0,none⟩,cap,rfl,fun h0=>⟨g,0,rfl,(Array.getElem?_eq_some_iff.1 hg).1,fun j hj=>?_⟩⟩;have a:j<n:=by simpa using hj
 have hc:=h.cells (g:=g) (by simp[Value.ownBlock]);have d:∀o,(⟨g,0,none⟩:Addr).add o=⟨g,o,none⟩:=fun o=>by unfold Addr.add;split<;>simp_all
 have h0:=Ch r a 0 (by omega);have h1:=Ch r a 1 (by omega);have h2:=Ch r a 2 (by omega);have c0:=hc (j*3+0) _ h0;have c1:=hc (j*3+1) _ h1;have c2:=hc (j*3+2) _ h2;rw[d]at c0 c1 c2;simp only[yA,wP,zm];exact⟨c0,c1,c2⟩
theorem C3{α:Type}{l:List α}{d:α}{i:Nat}(h:i<l.length):l.getD i d=l[i]:=by
 rw[List.getD_eq_getElem?_getD,yR h,Option.getD_some]
theorem Ju(Aa Ab:Option Addr)(ca cb:Nat)(la:List RowH)(lb:List Raw)(w:World)(hE:Env w)(hs:SysIn w Aa Ab la lb)(h1:la.length=lb.length)(h2:allV lb=true)(h3:Dm lb.length la=true)(h8:lb.length<=8):
 Calls prog 45 #[.slice Aa lb.length ca,.slice Ab lb.length cb] w (Fs lb.length (EA (AJ la) lb) w):=by
 have hb:=Cs.1 h2
 have a:∀i (hi:i<la.length),la[i].2.2.length=lb.length/\allV la[i].2.2=true:=fun i hi=>by
  have d:i<(AJ la).length:=by rw[AD];exact hi
  have:=Il.1 ((CA lb.length la).trans h3) i d
  rwa [CW la i hi]at this
 have hg:∀i (hi:i<la.length),(AJ la).getD i []=la[i].2.2:=fun i hi=>by
  rw[C3 (by rw[AD];exact hi),CW la i hi]
 refine PY Aa Ab lb.length ca cb la lb (EA (AJ la) lb) w hE h1 rfl hs h2 h3 h8 (fun i hi=>⟨(a i hi).1,fun j hj=>?_⟩) (fun i hi=>?_) (fun i j hi hj=>?_)
 .have h:j≠lb.length:=by have:=(a i hi).1;omega
  unfold EA;rw[zC h,hg i hi,C3 hj];exact(E9 (Cs.1 (a i hi).2 j hj)).1.symm
 .unfold EA;rw[zE rfl,C3 hi];exact(E9 (hb i hi)).1.symm
 unfold EA
 by_cases e:j=lb.length
 .rw[zE e,C3 hi];exact(E9 (hb i hi)).2
 have d:i<la.length:=by omega
 have h:j<la[i].2.2.length:=by have:=(a i d).1;omega
 rw[zC e,hg i d,C3 h];exact(E9 (Cs.1 (a i d).2 j h)).2
theorem Sq(Aa Ab:Option Addr)(ca cb:Nat)(la:List RowH)(lb xs:List Raw)(w:World)(hE:Env w)(hs:SysIn w Aa Ab la lb)(h:C5 (AJ la) lb=.ok xs):
 Calls prog 45 #[.slice Aa la.length ca,.slice Ab lb.length cb] w fun e w'=>(∃p c,e=.returned (.tuple #[.slice p xs.length c,.int .i64 0])/\InRow w' p xs)/\Below w.heap.size w w':=by
 unfold C5 at h;rw[AD,CA]at h
 split at h
 .rename_i hc;obtain⟨h1,h2,h3⟩:=hc
  split at h
  .rename_i h8;have key:=Ju Aa Ab ca cb la lb w hE hs h1 h2 h3 h8;rw[h1];refine key.mono fun e w' ⟨hB,hr⟩=>⟨?_,hB⟩
   rcases hr with⟨M,v,hM,he,a⟩|⟨er,hM,he⟩
   .rw[hM]at h;simp only[Except.ok.injEq]at h;obtain⟨p,c,rfl,d⟩:=BV a;refine⟨p,c,?_,by rw[<-h];exact d⟩;rw[he,<-h,Aq]
   rw[hM]at h
   cases h
  cases h
 cases h
theorem Sr(Aa Ab:Option Addr)(ca cb:Nat)(la:List RowH)(lb:List Raw)(er:Int)(w:World)(hE:Env w)(hs:SysIn w Aa Ab la lb)(h:C5 (AJ la) lb=.error er):
 Calls prog 45 #[.slice Aa la.length ca,.slice Ab lb.length cb] w fun e w'=>e=.returned (.tuple #[.slice none 0 0,.int .i64 er])/\Below w.heap.size w w':=by
 unfold C5 at h;rw[AD,CA]at h
 split at h
 .rename_i hc;obtain⟨h1,h2,h3⟩:=hc
  split at h
  .rename_i h8;have key:=Ju Aa Ab ca cb la lb w hE hs h1 h2 h3 h8;rw[h1];refine key.mono fun e w' ⟨hB,hr⟩=>⟨?_,hB⟩
   rcases hr with⟨M,v,hM,he,a⟩|⟨d,hM,he⟩
   .rw[hM]at h
    cases h
   rw[hM]at h;simp only[Except.error.injEq]at h;rw[he,h]
  rename_i h8;simp only[Except.error.injEq]at h;rw[<-h];exact PU Aa Ab ca cb la lb w hE h1 hs h2 h3 (by omega)
 rename_i hc;simp only[Except.error.injEq]at h;rw[<-h]
 by_cases h1:la.length=lb.length
 .cases h2:allV lb
  .exact Sk Aa Ab ca cb la lb w hE h1 hs h2
  cases h3:Dm lb.length la
  .exact Sm Aa Ab ca cb la lb w hE h1 hs h2 h3
  exact absurd ⟨h1,h2,h3⟩ hc
 exact PT Aa Ab ca cb la lb w h1 hs
def InM(n:Nat)(M N:Mx):Prop:=∀i,i<n->∀j,j<=n->M i j=N i j
section
variable {n:Nat} {M N:Mx}
theorem InM.sol(h:InM n M N)(y r:Nat->Rat):Sol n M y r<->Sol n N y r:=by
 have e:∀i,i<n->Ao n (fun j=>M i j*y j)=Ao n (fun j=>N i j*y j):=fun i hi=>Az fun j hj=>by rw[h i hi j (by omega)]
 exact⟨fun k i hi=>(e i hi).symm.trans (k i hi),fun k i hi=>(e i hi).trans (k i hi)⟩
theorem InM.rhs(h:InM n M N){y:Nat->Rat}:Sol n M y (fun i=>M i n)<->Sol n N y (fun i=>N i n) :=
 ⟨fun k=>((h.sol y _).1 k).congr fun i hi=>h i hi n (zB n),fun k=>((h.sol y _).2 k).congr fun i hi=>(h i hi n (zB n)).symm⟩
end
def ent(A:List (List Raw))(i j:Nat):Rat:=vq ((A.getD i []).getD j zraw)
def rhs(b:List Raw)(i:Nat):Rat:=vq (b.getD i zraw)
def V5:Except Int (List Raw)->List Raw
 |.ok l=>l
 |.error _=>[]
def WT:Except Int (List Raw)->Int
 |.ok _=>0
 |.error e=>e
end Nt
end
section
open Go.RowKit Go.Shelf
namespace Nt
abbrev Im(x:Raw):Value:=.agg #[.bool x.1,.string x.2.1,.string x.2.2]
theorem InRow.at{W:World}{A:Option Addr}{l:List Raw}(h:InRow W A l){j:Nat}(hj:j<l.length):∃b o,A=some ⟨b,o,none⟩/\b<W.heap.size/\W.cell? ⟨b,o+j*3,none⟩=some (.bool l[j].1)/\W.cell? ⟨b,o+j*3+1,none⟩=some (.string l[j].2.1)/\W.cell? ⟨b,o+j*3+2,none⟩=some (.string l[j].2.2):=by
 obtain⟨b,o,e,hl,hc⟩:=h (by omega);exact⟨b,o,e,hl,hc j hj⟩
end Nt
end
section
namespace Sh
open Nt
def IsI(x:Rat):Prop:=∃z:Int,x=(z:Rat)
theorem IsI.zero:IsI 0:=⟨0,by simp⟩
theorem IsI.one:IsI 1:=⟨1,by simp⟩
theorem IsI.add{x y:Rat}(h1:IsI x)(h2:IsI y):IsI (x+y):=by
 obtain⟨a,rfl⟩:=h1;obtain⟨b,rfl⟩:=h2;exact⟨a+b,by simp[Rat.intCast_add]⟩
theorem IsI.mul{x y:Rat}(h1:IsI x)(h2:IsI y):IsI (x*y):=by
 obtain⟨a,rfl⟩:=h1;obtain⟨b,rfl⟩:=h2;exact⟨a*b,by simp[Rat.intCast_mul]⟩
theorem IsI.neg{x:Rat}(h1:IsI x):IsI (-x):=by
 obtain⟨a,rfl⟩:=h1;exact⟨-a,by simp[Rat.intCast_neg]⟩
theorem IsI.sum{n:Nat}{f:Nat->Rat}(h:∀i,i<n->IsI (f i)):IsI (Ao n f):=by
 induction n with
 |zero=>exact IsI.zero
 |succ n ih=>unfold Ao;exact(ih fun i hi=>h i (by omega)).add (h n (by omega))
def skip(i r:Nat):Nat:=if r<i then r else r+1
def sgn:Nat->Rat
 |0=>1
 |n+1=>- sgn n
theorem Un(n:Nat):IsI (sgn n):=by
 induction n with
 |zero=>exact IsI.one
 |succ n ih=>exact ih.neg
def det:Nat->Mx->Rat
 |0,_=>1
 |n+1,M=>Ao (n+1) fun i=>sgn i*M i 0*det n fun r c=>M (skip i r) (c+1)
theorem Ek:∀{n:Nat} {M N:Mx},(∀i j,i<n->j<n->M i j=N i j)->det n M=det n N:=by
 intro n
 induction n with
 |zero=>intros;rfl
 |succ n ih=>
  intro M N h;unfold det;apply Az;intro i hi;rw[h i 0 hi (by omega),ih (M:=fun r c=>M (skip i r) (c+1)) (N:=fun r c=>N (skip i r) (c+1))];intro r c hr hc;exact h _ _ (by unfold skip;split<;>omega) (by omega)
def AR(r:Nat)(u:Nat->Rat)(M:Mx):Mx:=fun i=>if i=r then u else M i
theorem Kg{i r:Nat}(h:r≠i):∃t,skip i t=r/\∀s,skip i s=r<->s=t:=by
 by_cases c:r<i
 .refine⟨r,by unfold skip;rw[zE c],fun s=>?_⟩;unfold skip;split<;>omega
 refine⟨r-1,by unfold skip;rw[zC (by omega)];omega,fun s=>?_⟩;unfold skip;split<;>omega
theorem DD{i:Nat}(u:Nat->Rat)(M:Mx):(fun r c=>AR i u M (skip i r) (c+1))=fun r c=>M (skip i r) (c+1):=by
 funext r c
 unfold AR;rw[zC (by unfold skip;split<;>omega)]
theorem Dl{i r t:Nat}(u:Nat->Rat)(M:Mx)(h:∀s,skip i s=r<->s=t):(fun s c=>AR r u M (skip i s) (c+1))=AR t (fun c=>u (c+1)) fun s c=>M (skip i s) (c+1):=by
 funext s c
 unfold AR
 by_cases e:s=t
 .rw[zE ((h s).2 e),zE e]
 rw[zC (fun e2=>e ((h s).1 e2)),zC e]
theorem OL{i r t n:Nat}(h:skip i t=r)(hr:r<n+1)(hi:i<n+1)(_:r≠i):t<n:=by
 unfold skip at h;split at h<;>omega
theorem Gj:∀{n r:Nat} (u v:Nat->Rat) (a b:Rat) (M:Mx),r<n->det n (AR r (fun j=>a*u j+b*v j) M)=a*det n (AR r u M)+b*det n (AR r v M):=by
 intro n
 induction n with
 |zero=>intro r u v a b M h;omega
 |succ n ih=>
  intro r u v a b M hr;unfold det;rw[<-Bo,<-Bo,<-CU];apply Az;intro i hi
  by_cases e:r=i
  .subst e;rw[DD,DD,DD];unfold AR;rw[zE rfl,zE rfl,zE rfl];grind
  obtain⟨t,h1,h2⟩:=Kg e;rw[Dl _ _ h2,Dl _ _ h2,Dl _ _ h2,ih _ _ _ _ _ (OL h1 hr hi e)];unfold AR;rw[zC (fun h=>e h.symm),zC (fun h=>e h.symm),zC (fun h=>e h.symm)];grind
theorem PZ{n k:Nat}(f:Nat->Rat)(hk:k+1<n)(h:∀i,i<n->i≠k->i≠k+1->f i=0):Ao n f=f k+f (k+1):=by
 induction n with
 |zero=>omega
 |succ n ih=>
  unfold Ao
  by_cases e:k+1=n
  .subst e;rw[C9 (k:=k) f (by omega) fun i hi d=>h i (by omega) d (by omega)]
  rw[ih (by omega) fun i hi a b=>h i (by omega) a b,h n (by omega) (by omega) (by omega)];grind
theorem OM:∀{n r:Nat} {M:Mx},r+1<n->(∀j,j<n->M r j=M (r+1) j)->det n M=0:=by
 intro n
 induction n with
 |zero=>intro r M h;omega
 |succ n ih=>
  intro r M hr he;unfold det;rw[PZ (k:=r) _ hr]
  .have e1:det n (fun s c=>M (skip r s) (c+1))=det n (fun s c=>M (skip (r+1) s) (c+1)):=by
    apply Ek;intro s c hs hc;unfold skip
    by_cases c1:s<r
    .rw[zE c1,zE (by omega)]
    by_cases c2:s=r
    .subst c2;rw[zC (by omega),zE (by omega)];exact(he _ (by omega)).symm
    rw[zC c1,zC (by omega)]
   rw[e1,he 0 (by omega)]
   show sgn r*_*_+(- sgn r)*_*_=0
   grind
  intro i hi h1 h2;obtain⟨t,k1,k2⟩:=Kg (i:=i) (r:=r) (fun e=>h1 e.symm);obtain⟨t2,l1,l2⟩:=Kg (i:=i) (r:=r+1) (fun e=>h2 e.symm)
  have:t2=t+1:=by
   have a:skip i (t+1)=r+1:=by unfold skip at k1 ⊢;split at k1<;>split<;>omega
   exact((l2 _).1 a).symm
  subst this;have ht:t+1<n:=OL l1 hr hi (fun e=>h2 e.symm);rw[ih (r:=t) ht]
  .grind
  intro j hj;rw[k1,l1];exact he _ (by omega)
theorem El(r:Nat)(M:Mx):AR r (M r) M=M:=by
 funext i
 unfold AR
 split
 .next h=>rw[h]
 rfl
theorem GB{r s:Nat}(h:r≠s)(u v:Nat->Rat)(M:Mx):AR r u (AR s v M)=AR s v (AR r u M):=by
 funext i
 unfold AR
 by_cases e1:i=r
 .rw[zE e1,zC (by omega),zE e1]
 rw[zC e1]
 by_cases e2:i=s
 .rw[zE e2,zE e2]
 rw[zC e2,zC e2,zC e1]
theorem Qa(r:Nat)(u v:Nat->Rat)(M:Mx):AR r u (AR r v M)=AR r u M:=by
 funext i
 unfold AR
 split<;>rfl
theorem Ss{n r:Nat}(u v:Nat->Rat)(M:Mx)(hr:r+1<n):det n (AR r u (AR (r+1) v M))=- det n (AR r v (AR (r+1) u M)):=by
 have z:∀x:Nat->Rat,det n (AR r x (AR (r+1) x M))=0:=fun x=>OM hr fun j _=>by
  unfold AR;rw[zE rfl,zC (by omega),zE rfl]
 have l1:∀x y z:Nat->Rat,det n (AR r (fun j=>1*x j+1*y j) (AR (r+1) z M))=1*det n (AR r x (AR (r+1) z M))+1*det n (AR r y (AR (r+1) z M)):=fun x y z=>Gj x y 1 1 _ (by omega)
 have l2:∀x y z:Nat->Rat,det n (AR r z (AR (r+1) (fun j=>1*x j+1*y j) M))=1*det n (AR r z (AR (r+1) x M))+1*det n (AR r z (AR (r+1) y M)):=fun x y z=>by
  rw[GB (by omega),GB (by omega) z x,GB (by omega) z y];exact Gj x y 1 1 _ hr
 have h:=z fun j=>1*u j+1*v j;rw[l1,l2,l2,z u,z v]at h;grind
theorem St:∀{d n r:Nat} {M:Mx},r+1+d<n->(∀j,j<n->M r j=M (r+1+d) j)->det n M=0:=by
 intro d
 induction d with
 |zero=>intro n r M h he;exact OM h he
 |succ d ih=>
  intro n r M h he
  have h1:M=AR (r+1+d) (M (r+1+d)) (AR (r+1+d+1) (M (r+1+(d+1))) M):=by
   have e1:=El (r+1+d+1) M;rw[show r+1+(d+1)=r+1+d+1 by omega,e1,El]
  rw[h1,Ss _ _ _ (by omega),ih (r:=r) (by omega)]
  .rfl
  intro j hj;unfold AR;rw[zC (by omega),zC (by omega),zE rfl];exact he j hj
theorem ON{n r s:Nat}{M:Mx}(hr:r<n)(hs:s<n)(a:r≠s)(he:∀j,j<n->M r j=M s j):det n M=0:=by
 by_cases c:r<s
 .exact St (d:=s-r-1) (r:=r) (by omega) fun j hj=>by rw[show r+1+(s-r-1)=s by omega];exact he j hj
 exact St (d:=r-s-1) (r:=s) (by omega) fun j hj=>by rw[show s+1+(r-s-1)=r by omega];exact(he j hj).symm
theorem No{n r s:Nat}(c:Rat)(M:Mx)(hr:r<n)(hs:s<n)(a:r≠s):det n (AR r (fun j=>M r j+c*M s j) M)=det n M:=by
 have h:=Gj (M r) (M s) 1 c M hr;rw[El,ON (M:=AR r (M s) M) hr hs a fun j _=>by unfold AR;rw[zE rfl,zC (fun e=>a e.symm)]]at h;have e:(fun j=>M r j+c*M s j)=fun j=>1*M r j+c*M s j:=by funext j;rw[wH]
 rw[e,h];grind
theorem In{n r:Nat}(c:Rat)(M:Mx)(hr:r<n):det n (AR r (fun j=>c*M r j) M)=c*det n M:=by
 have h:=Gj (M r) (M r) c 0 M hr;rw[El]at h;have e:(fun j=>c*M r j)=fun j=>c*M r j+0*M r j:=by funext j;grind
 rw[e,h];grind
theorem Su:∀(n:Nat){M:Mx},(∀i j,i<n->j<n->M i j=if i=j then 1 else 0)->det n M=1:=by
 intro n
 induction n with
 |zero=>intros;rfl
 |succ n ih=>
  intro M h;unfold det;rw[C9 (k:=0) _ (by omega) fun i hi a=>by rw[h i 0 hi (by omega),zC a];grind];rw[h 0 0 (by omega) (by omega),zE rfl,ih]
  .show (1:Rat)*1*1=1
   grind
  intro i j hi hj
  show M (i+1) (j+1)=_
  rw[h _ _ (by omega) (by omega)]
  by_cases e:i=j
  .rw[zE e,zE (by omega)]
  rw[zC e,zC (by omega)]
theorem Uo{n r:Nat}(M:Mx)(hr:r<n)(y:Nat->Rat)(R:Nat->Nat->Rat):∀m,det n (AR r (fun j=>Ao m fun l=>y l*R l j) M)=Ao m fun l=>y l*det n (AR r (R l) M):=by
 intro m
 induction m with
 |zero=>
  have h:=In 0 (AR r (fun _=>0) M) hr;rw[Qa]at h;have e:(fun j=>0*AR r (fun _=>0) M r j)=(fun _=>0):=by funext j;grind
  rw[e]at h
  show det n (AR r (fun _=>0) M)=0
  rw[h];grind
 |succ m ih=>
  show det n (AR r (fun j=>(Ao m fun l=>y l*R l j)+y m*R m j) M)=_
  have e:(fun j=>(Ao m fun l=>y l*R l j)+y m*R m j)=fun j=>1*(Ao m fun l=>y l*R l j)+y m*R m j:=by funext j;grind
  rw[e,Gj _ _ _ _ _ hr,ih]
  show _=(Ao m fun l=>y l*det n (AR r (R l) M))+y m*det n (AR r (R m) M)
  grind
theorem V6{n i:Nat}(M:Mx)(y c:Nat->Rat)(hi:i<n)(h:∀j,j<n->Ao n (fun l=>y l*M l j)=c j):y i*det n M=det n (AR i c M):=by
 have h1:det n (AR i c M)=det n (AR i (fun j=>Ao n fun l=>y l*M l j) M):=by
  apply Ek;intro r j _ hj;unfold AR
  split
  .exact(h j hj).symm
  rfl
 rw[h1,Uo M hi,C9 (k:=i) _ hi fun l hl a=>?_,El];rw[ON (M:=AR i (M l) M) hi hl (fun e=>a e.symm) fun j _=>by unfold AR;rw[zE rfl,zC a]];grind
def BC:Nat->(Nat->Rat)->Rat
 |0,_=>1
 |n+1,f=>BC n f*f n
theorem GY:∀{n i:Nat} (f:Nat->Rat),i<n+1->BC (n+1) f=f i*BC n fun r=>f (skip i r):=by
 intro n
 induction n with
 |zero => intro i f h;have:i=0:=by omega
          subst this;simp only[BC];grind
 |succ n ih=>
  intro i f h
  by_cases e:i=n+1
  .subst e
   show BC (n+1) f*f (n+1)=_
   have:BC (n+1) (fun r=>f (skip (n+1) r))=BC (n+1) f:=by
    have:∀m,m<=n+1->BC m (fun r=>f (skip (n+1) r))=BC m f:=by
     intro m
     induction m with
     |zero=>intro _;rfl
     |succ m ihm=>intro hm;unfold BC;rw[ihm (by omega)];congr 1;show f (if m<n+1 then m else m+1)=f m;rw[zE (by omega)]
    exact this _ (zB _)
   rw[this];grind
  show BC (n+1) f*f (n+1)=_
  rw[ih f (by omega:i<n+1)]
  show _=f i*(BC n (fun r=>f (skip i r))*f (skip i n))
  rw[show skip i n=n+1 by unfold skip;rw[zC (by omega)]];grind
theorem Kh:∀{n:Nat} {s:Nat->Rat} {M:Mx},(∀i j,i<n->j<n->IsI (s i*M i j))->IsI (BC n s*det n M):=by
 intro n
 induction n with
 |zero=>intro s M _;show IsI (1*1);rw[wH];exact IsI.one
 |succ n ih=>
  intro s M h;unfold det;rw[<-Bo];apply IsI.sum;intro i hi;rw[GY s hi];have h1:=ih (s:=fun r=>s (skip i r)) (M:=fun r c=>M (skip i r) (c+1)) fun a b ha hb=>h _ _ (by unfold skip;split<;>omega) (by omega);have h2:=((Un i).mul (h i 0 hi (by omega))).mul h1;have e:s i*BC n (fun r=>s (skip i r))*(sgn i*M i 0*det n fun r c=>M (skip i r) (c+1))=sgn i*(s i*M i 0)*(BC n (fun r=>s (skip i r))*det n fun r c=>M (skip i r) (c+1)):=by grind
  rw[e];exact h2
theorem Io{n:Nat}{f g:Nat->Rat}(h:∀i,i<n->f i<=g i):Ao n f<=Ao n g:=by
 induction n with
 |zero=>exact xL
 |succ n ih=>
  unfold Ao;have h1:=ih fun i hi=>h i (by omega);have h2:=h n (by omega);grind
theorem EW{n k:Nat}(f:Nat->Rat)(hk:k<n):Ao n f=f k+Ao n fun j=>if j=k then 0 else f j:=by
 induction n with
 |zero=>omega
 |succ n ih=>
  show Ao n f+f n=f k+((Ao n fun j=>if j=k then 0 else f j)+(if n=k then 0 else f n))
  by_cases e:k=n
  .subst e;rw[zE rfl,Az (g:=f) (f:=fun j=>if j=k then 0 else f j) fun i hi=>zC (by omega)];grind
  rw[zC (by omega),ih (by omega)];grind
theorem Ip{a b:Rat}(h1:a<=0)(h2:0<=b):a*b<=0:=by
 have:=xR (a:=-a) (b:=b) (by grind) h2;grind
def CJ(k:Nat)(M:Mx):Mx:=fun i j=>if i=k then M k j*(M k k)⁻¹ else M i j-M i k*(M k j*(M k k)⁻¹)
structure Shs(n:Nat)(M:Mx)(v:Nat->Rat):Prop where
 le1:∀i,i<n->M i i<=1
 off:∀i j,i<n->j<n->j≠i->M i j<=0
 rhs:∀i,i<n->0<=M i n
 slack:∀i,i<n->M i n<=Ao n (M i)
 pos:∀i,i<n->0<Ao n fun j=>M i j*v j
 vnn:∀j,j<n->0<=v j
theorem Shs.piv{n k:Nat}{M:Mx}{v:Nat->Rat}(h:Shs n M v)(hk:k<n):0<M k k:=by
 have h1:=h.pos k hk;rw[EW _ hk]at h1
 have h2:(Ao n fun j=>if j=k then 0 else M k j*v j)<=0:=by
  have:=Io (n:=n) (f:=fun j=>if j=k then 0 else M k j*v j) (g:=fun _=>0) fun j hj=>by
   split
   .exact xL
   next e=>exact Ip (h.off k j hk hj e) (h.vnn j hj)
  rw[CT fun _ _=>rfl]at this;exact this
 by_cases c:0<M k k
 .exact c
 have:=Ip (Rat.not_lt.1 c) (h.vnn k hk);grind
theorem inv_pos{p:Rat}(h:0<p):0<p⁻¹:=Rat.inv_pos.2 h
theorem Shs.step{n k:Nat}{M:Mx}{v:Nat->Rat}(h:Shs n M v)(hk:k<n):Shs n (CJ k M) v:=by
 have hp:=h.piv hk;have hq:=inv_pos hp;have s:M k k*(M k k)⁻¹=1:=yy _ (by grind);have rowk:∀j,CJ k M k j=(M k k)⁻¹*M k j:=fun j=>by unfold CJ;rw[zE rfl];grind
 have rowi:∀i j,i≠k->CJ k M i j=M i j+(- M i k*(M k k)⁻¹)*M k j:=fun i j e=>by unfold CJ;rw[zC e];grind
 have hf:∀i,i<n->i≠k->0 <=-M i k*(M k k)⁻¹:=fun i hi e=>xR (by have:=h.off i k hi hk (fun a=>e a.symm);grind) (yu hq);refine⟨fun i hi=>?_,fun i j hi hj d=>?_,fun i hi=>?_,fun i hi=>?_,fun i hi=>?_,h.vnn⟩
 .by_cases e:i=k
  .subst e;rw[rowk,vV,s];exact xL
  rw[rowi i i e];have h1:=h.le1 i hi;have h2:=Ip (h.off k i hk hi e) (hf i hi e);grind
 .by_cases e:i=k
  .subst e;rw[rowk];have:=Ip (h.off i j hi hj d) (yu hq);grind
  rw[rowi i j e]
  by_cases e2:j=k
  .subst e2;have e3:M i j+-M i j*(M j j)⁻¹*M j j=M i j-M i j*(M j j*(M j j)⁻¹):=by grind
   rw[e3,s];grind
  have h1:=h.off i j hi hj d;have h2:=Ip (h.off k j hk hj e2) (hf i hi e);grind
 .by_cases e:i=k
  .subst e;rw[rowk];exact xR (yu hq) (h.rhs i hi)
  rw[rowi i n e];have h1:=h.rhs i hi;have h2:=xR (hf i hi e) (h.rhs k hk);grind
 .by_cases e:i=k
  .subst e;rw[rowk,Az fun j _=>rowk j,Bo];exact yC (h.slack i hi) (yu hq)
  rw[rowi i n e,Az fun j _=>rowi i j e,CU,Bo];have h1:=h.slack i hi;have h2:=yC (h.slack k hk) (hf i hi e);have h3:Ao n (M i)=Ao n fun j=>M i j:=rfl;have h4:Ao n (M k)=Ao n fun j=>M k j:=rfl;rw[h3]at h1;rw[h4]at h2;grind
 by_cases e:i=k
 .subst e;rw[Az (g:=fun j=>(M i i)⁻¹*(M i j*v j)) fun j _=>by rw[rowk];grind,Bo];exact vP hq (h.pos i hi)
 rw[Az (g:=fun j=>M i j*v j+(- M i k*(M k k)⁻¹)*(M k j*v j)) fun j _=>by rw[rowi i j e];grind,CU,Bo];have h1:=h.pos i hi;have h2:=xR (hf i hi e) (yu (h.pos k hk));grind
theorem Shs.diag{n i:Nat}{M:Mx}{v:Nat->Rat}(h:Shs n M v)(hi:i<n):0<=M i i/\M i n<=M i i/\∀j,j<n->- M i i<=M i j:=by
 have h1:=h.slack i hi;have h2:=h.rhs i hi;rw[EW _ hi]at h1
 have h3:(Ao n fun j=>if j=i then 0 else M i j)<=0:=by
  have:=Io (n:=n) (f:=fun j=>if j=i then 0 else M i j) (g:=fun _=>0) fun j hj=>by
   split
   .exact xL
   next e=>exact h.off i j hi hj e
  rw[CT fun _ _=>rfl]at this;exact this
 refine⟨by grind,by grind,fun j hj=>?_⟩
 by_cases e:j=i
 .subst e;grind
 rw[EW _ hj,zC e]at h1
 have h4:(Ao n fun t=>if t=j then 0 else if t=i then 0 else M i t)<=0:=by
  have:=Io (n:=n) (f:=fun t=>if t=j then 0 else if t=i then 0 else M i t) (g:=fun _=>0) fun t ht=>by
   split
   .exact xL
   split
   .exact xL
   next e=>exact h.off i t hi ht e
  rw[CT fun _ _=>rfl]at this;exact this
 grind
theorem Shs.abs{n i j:Nat}{M:Mx}{v:Nat->Rat}(h:Shs n M v)(hi:i<n)(hj:j<=n):-1<=M i j/\M i j<=1:=by
 obtain⟨h1,h2,h3⟩:=h.diag hi;have h4:=h.le1 i hi
 by_cases e:j=n
 .subst e;have:=h.rhs i hi;grind
 have h5:=h3 j (by omega)
 by_cases e2:j=i
 .subst e2;grind
 have:=h.off i j hi (by omega) e2;grind
structure Mad(n k:Nat)(A M:Mx):Prop where
 unit:Unit n k M
 comb:∀i,i<n->∃y:Nat->Rat,(∀l,k<=l->y l=0)/\∀j,j<=n->M i j=(if i<k then 0 else A i j)+Ao k fun l=>y l*A l j
 dets:∃P:Rat,0<P/\P<=1/\∀K,k<=K->K<=n->det K A=P*det K M
theorem Mad.start(n:Nat)(A:Mx):Mad n 0 A A:=by
 refine⟨fun i j _ h=>absurd h (by omega),fun i _=>⟨fun _=>0,fun _ _=>rfl,fun j _=>?_⟩,1,by decide,by decide,fun K _ _=>(wH _).symm⟩;rw[zC (by omega)];exact(vB _).symm
def GZ(k m:Nat)(M:Mx):Mx:=fun i j=>if i=k then M k j*(M k k)⁻¹ else if i<m then M i j-M i k*(M k j*(M k k)⁻¹) else M i j
theorem Qb{n k K:Nat}{M:Mx}(hk:k<K)(_:K<=n):∀m,det K (GZ k m M)=(M k k)⁻¹*det K M:=by
 intro m
 induction m with
 |zero=>
  rw[<-In _ M hk]
  congr 1
  funext i j
  unfold GZ AR
  by_cases e:i=k
  .rw[zE e,zE e,vV]
  rw[zC e,zC (by omega),zC e]
 |succ m ih=>
  rw[<-ih]
  by_cases e:m=k
  .congr 1
   funext i j
   unfold GZ
   by_cases e2:i=k
   .rw[zE e2,zE e2]
   rw[zC e2,zC e2]
   by_cases c:i<m
   .rw[zE (by omega),zE c]
   rw[zC (by omega),zC c]
  by_cases c:m<K
  .rw [<-No (r:=m) (s:=k) (- M m k) (GZ k m M) c hk e]
   congr 1
   funext i j
   unfold AR
   by_cases e2:i=m
   .subst e2;unfold GZ;simp only[zC e,zC (vi _),zE (yB _)];simp only[vI];grind
   rw[zC e2];unfold GZ
   by_cases e3:i=k
   .rw[zE e3,zE e3]
   rw[zC e3,zC e3]
   by_cases c2:i<m
   .rw[zE (by omega),zE c2]
   rw[zC (by omega),zC c2]
  apply Ek;intro i j hi hj;unfold GZ
  by_cases e3:i=k
  .rw[zE e3,zE e3]
  rw[zC e3,zC e3,zE (by omega),zE (by omega)]
theorem Qc{n k K:Nat}{M:Mx}(hk:k<K)(hK:K<=n):det K (CJ k M)=(M k k)⁻¹*det K M:=by
 rw[<-Qb (n:=n) hk hK K];apply Ek;intro i j hi _;unfold GZ CJ
 by_cases e:i=k
 .rw[zE e,zE e]
 rw[zC e,zC e,zE hi]
theorem Mad.step{n k:Nat}{A M:Mx}{v:Nat->Rat}(h:Mad n k A M)(hs:Shs n M v)(hk:k<n):Mad n (k+1) A (CJ k M):=by
 have hp:=hs.piv hk;have d:M k k*(M k k)⁻¹=1:=yy _ (by grind);have hz:=h.unit.zeros hk (zB _);refine⟨fun i j hi hj=>?_,fun i hi=>?_,?_⟩
 .unfold CJ
  by_cases e:j=k
  .subst e
   by_cases e2:i=j
   .rw[zE e2,zE e2,d]
   rw[zC e2,zC e2,d];grind
  rw[hz j (by omega)]
  by_cases e2:i=k
  .rw[zE e2,zC (by omega)];grind
  rw[zC e2,h.unit i j hi (by omega)];grind
 .obtain ⟨yk,k1,k2⟩:=h.comb k hk;have k2:∀j,j<=n->M k j=A k j+Ao k fun l=>yk l*A l j:=fun j hj=>by have:=k2 j hj;rwa [zC (vi _)]at this
  by_cases e:i=k
  .subst e;refine⟨fun l=>if l=i then (M i i)⁻¹ else (M i i)⁻¹*yk l,fun l hl=>?_,fun j hj=>?_⟩
   .dsimp only;rw[zC (by omega),k1 l (by omega)];grind
   rw[zE (by omega)];unfold CJ;rw[zE rfl]
   show _=0+((Ao i fun l=>(if l=i then (M i i)⁻¹ else (M i i)⁻¹*yk l)*A l j)+(if i=i then (M i i)⁻¹ else (M i i)⁻¹*yk i)*A i j)
   rw[zE rfl,Az (g:=fun l=>(M i i)⁻¹*(yk l*A l j)) fun l hl=>by rw[zC (by omega)];grind,Bo];have:=k2 j hj;grind
  obtain⟨y,h1,h2⟩:=h.comb i hi;refine⟨fun l=>if l=k then-M i k*(M k k)⁻¹ else y l+(- M i k*(M k k)⁻¹)*yk l,fun l hl=>?_,fun j hj=>?_⟩
  .dsimp only;rw[zC (by omega),k1 l (by omega),h1 l (by omega)];grind
  have e1:(if i<k+1 then 0 else A i j)=(if i<k then 0 else A i j):=by
   by_cases c:i<k
   .rw[zE c,zE (by omega)]
   rw[zC c,zC (by omega)]
  rw[e1];unfold CJ;rw[zC e]
  show _=_+((Ao k fun l=>(if l=k then-M i k*(M k k)⁻¹ else y l+(- M i k*(M k k)⁻¹)*yk l)*A l j)+(if k=k then-M i k*(M k k)⁻¹ else y k+(- M i k*(M k k)⁻¹)*yk k)*A k j)
  rw[zE rfl,Az (g:=fun l=>y l*A l j+(- M i k*(M k k)⁻¹)*(yk l*A l j)) fun l hl=>by rw[zC (by omega)];grind,CU,Bo];have a:=k2 j hj;have b:=h2 j hj;grind
 obtain⟨P,p1,p2,p3⟩:=h.dets;refine⟨P*M k k,vP p1 hp,?_,fun K h1 h2=>?_⟩
 .have h1:=hs.le1 k hk;have h2:=yC h1 (yu p1);grind
 rw[p3 K (by omega) h2,Qc (n:=n) (by omega) h2,Rat.mul_assoc,<-Rat.mul_assoc (M k k),d,wH]
theorem Mad.det_k{n k:Nat}{A M:Mx}(h:Mad n k A M)(hk:k<=n):0<det k A/\det k A<=1:=by
 obtain⟨P,p1,p2,p3⟩:=h.dets;have:=p3 k (zB _) hk;rw[Su k fun i j hi hj=>h.unit i j (by omega) hj,Rat.mul_one]at this;rw[this];exact⟨p1,p2⟩
theorem EB(c:Rat)(n:Nat):BC n (fun _=>c)=c^n:=by
 induction n with
 |zero=>exact(Rat.pow_zero c).symm
 |succ n ih=>rw[BC,ih,vl]
theorem Ki{n:Nat}{f g:Nat->Rat}(h:∀i,i<n->f i=g i):BC n f=BC n g:=by
 induction n with
 |zero=>rfl
 |succ n ih=>rw[BC,BC,ih fun i hi=>h i (by omega),h n (by omega)]
theorem Lo{n k l:Nat}{A:Mx}{c:Rat}(hA:∀i j,i<n->j<n->IsI (c*A i j))(hk:k<=n)(y r:Nat->Rat)(t:Rat)(hl:l<k)(ht:∀j,j<k->IsI (t*r j))(h:∀j,j<k->(Ao k fun l=>y l*A l j)=r j):
 IsI (y l*(c^(k-1)*t*det k A)):=by
 have h1:=V6 A y r hl h
 have h2:=Kh (n:=k) (s:=fun i=>if i=l then t else c) (M:=AR l r A) fun i j hi hj=>by
  unfold AR
  by_cases e:i=l
  .rw[zE e,zE e];exact ht j hj
  rw[zC e,zC e];exact hA i j (by omega) (by omega)
 have h3:BC k (fun i=>if i=l then t else c)=c^(k-1)*t:=by
  obtain⟨m,rfl⟩:∃m,k=m+1:=⟨k-1,by omega⟩;rw[GY _ hl,zE rfl,Ki (g:=fun _=>c) fun i hi=>zC (by unfold skip;split<;>omega),EB,wR,vV]
 rw[h3,<-h1]at h2;have e:c^(k-1)*t*(y l*det k A)=y l*(c^(k-1)*t*det k A):=by grind
 rwa [e]at h2
theorem Lq(c:Rat){k:Nat}(h:0<k):c^(k-1)*c=c^k:=by
 obtain⟨m,rfl⟩:∃m,k=m+1:=⟨k-1,by omega⟩;rw[wR,vl]
theorem Mad.int_top{n k i j:Nat}{A M:Mx}{c D:Rat}(h:Mad n k A M)(hk:k<=n)(hA:∀i j,i<n->j<n->IsI (c*A i j))(hb:∀i,i<n->IsI (c*D*A i n))(hD:IsI D)(hi:i<k)(hj:j<=n):IsI (c^k*det k A*D*M i j):=by
 obtain⟨y,h1,h2⟩:=h.comb i (by omega)
 have h3:∀l,l<k->IsI (y l*(c^(k-1)*1*det k A)):=fun l hl=>Lo hA hk y (fun j=>if i=j then 1 else 0) 1 hl (fun j _=>by split;(· rw[wH];exact IsI.one);(· rw[wH];exact IsI.zero)) fun j hj=>by
  have:=h2 j (by omega);rw[h.unit i j (by omega) hj,zE hi,Rat.zero_add]at this;exact this.symm
 rw[h2 j hj,zE hi,Rat.zero_add,<-Bo];apply IsI.sum;intro l hl;have h4:=h3 l hl
 have h5:IsI (c*D*A l j):=by
  by_cases e:j=n
  .rw[e];exact hb l (by omega)
  have:=(hA l j (by omega) (by omega)).mul hD;have e2:c*A l j*D=c*D*A l j:=by grind
  rwa [e2]at this
 have h6:=h4.mul h5;have e:y l*(c^(k-1)*1*det k A)*(c*D*A l j)=c^(k-1)*c*det k A*D*(y l*A l j):=by grind
 rw[e,Lq c (by omega)]at h6;exact h6
theorem Mad.int_all{n k i j:Nat}{A M:Mx}{c D:Rat}(h:Mad n k A M)(hk:k<=n)(hc:IsI c)(hA:∀i j,i<n->j<n->IsI (c*A i j))(hb:∀i,i<n->IsI (c*D*A i n))(hD:IsI D)(hi:i<n)(hj:j<=n):IsI (c^k*det k A*(c*D)*M i j):=by
 by_cases hik:i<k
 .have h1:=(h.int_top hk hA hb hD hik hj).mul hc;have e:c^k*det k A*D*M i j*c=c^k*det k A*(c*D)*M i j:=by grind
  rwa [e]at h1
 obtain⟨y,h1,h2⟩:=h.comb i hi
 have h3:∀l,l<k->IsI (y l*(c^(k-1)*c*det k A)):=fun l hl=>Lo hA hk y (fun j=>- A i j) c hl (fun j hj=>by
  have:=(hA i j hi (by omega)).neg;have e:-(c*A i j)=c*(- A i j):=by grind
  rwa [e]at this) fun j hj=>by
  have:=h2 j (by omega);rw[h.unit i j hi hj,zC (by omega),zC hik]at this;grind
 have h5:∀l,l<n->IsI (c*D*A l j):=fun l hl=>by
  by_cases e:j=n
  .rw[e];exact hb l hl
  have:=(hA l j hl (by omega)).mul hD;have e2:c*A l j*D=c*D*A l j:=by grind
  rwa [e2]at this
 have a:IsI (c^k*det k A):=by
  have:=Kh (n:=k) (s:=fun _=>c) (M:=A) fun i j hi hj=>hA i j (by omega) (by omega)
  rwa [EB]at this
 rw[h2 j hj,zC hik];have e:c^k*det k A*(c*D)*(A i j+Ao k fun l=>y l*A l j)=c^k*det k A*(c*D*A i j)+(c^k*det k A*(c*D))*Ao k fun l=>y l*A l j:=by grind
 rw[e,<-Bo];refine(a.mul (h5 i hi)).add (IsI.sum fun l hl=>?_);have h6:=(h3 l hl).mul (h5 l (by omega));have e:y l*(c^(k-1)*c*det k A)*(c*D*A l j)=c^(k-1)*c*det k A*(c*D)*(y l*A l j):=by grind
 rwa [e,Lq c (by omega)]at h6
theorem Lr{S:Rat->Bool}{n k:Nat}{M:Mx}:∀{m:Nat},m<=n ->
 (∀i,i<m->i≠k->∀j,k<=j->j<=n->S (M i k)=true/\S (M k j)=true/\S (M i j)=true/\S (M i k*M k j)=true) ->
 AB S n k m M=some fun i j=>if i<m/\i≠k/\k<=j then M i j-M i k*M k j else M i j:=by
 intro m
 induction m with
 |zero=>
  intro _ _;unfold AB
  congr 1
 |succ m ih=>
  intro hm hS;unfold AB;rw[ih (by omega) fun i hi=>hS i (by omega)];rw[Option.bind_some];unfold Bp;have e1:∀j,(if m<m/\m≠k/\k<=j then M m j-M m k*M k j else M m j)=M m j:=fun j=>zC fun h=>absurd h.1 (vi _);have e2:∀j,(if k<m/\k≠k/\k<=j then M k j-M k k*M k j else M k j)=M k j:=fun j=>zC fun h=>h.2.1 rfl
  by_cases c:m=k\/M m k=0
  .rw [zE (by dsimp only;rw[e1];exact c)]
   congr 1
   funext i j
   by_cases e:i=m
   .subst e;rw[e1]
    by_cases d:i≠k/\k<=j
    .rw[zE ⟨by omega,d⟩]
     rcases c with c|c
     .exact absurd c d.1
     rw[c];grind
    rw[zC fun h=>d h.2]
   by_cases d:i<m/\i≠k/\k<=j
   .rw[zE d,zE ⟨by omega,d.2⟩]
   rw[zC d,zC fun h=>d ⟨by omega,h.2⟩]
  have a:m≠k:=fun e=>c (.inl e);rw[zC (by dsimp only;rw[e1];exact c),zE]
  .congr 1
   funext i j
   unfold CE;dsimp only
   by_cases e:i=m
   .subst e;rw[e1,e1,e2]
    by_cases d:k<=j
    .rw[zE ⟨rfl,d⟩,zE ⟨by omega,a,d⟩]
    rw[zC fun h=>d h.2,zC fun h=>d h.2.2]
   rw[zC fun h=>e h.1]
   by_cases d:i<m/\i≠k/\k<=j
   .rw[zE d,zE ⟨by omega,d.2⟩]
   rw[zC d,zC fun h=>d ⟨by omega,h.2⟩]
  rw[Dy];intro j h1 h2;rw[e1,e1,e2];exact hS m (by omega) a j h1 h2
theorem Np{n k:Nat}{M:Mx}(hk:k<n)(h:M k k≠0):Dd n k M (n-k)=some k :=
 FQ (by omega) (by omega) hk h fun i a b=>by omega
theorem Qe(k:Nat)(M:Mx):AU k k M=M:=by
 funext i
 unfold AU
 split
 .next h=>rw[h]
 rfl
theorem Ls{S:Rat->Bool}{n k:Nat}{M:Mx}(hk:k<n)(hu:Unit n k M)(h0:M k k≠0)
 (h1:∀i j,i<n->j<=n->S (M i j)=true)(h2:∀j,j<=n->S (CJ k M k j)=true)(h3:∀i j,i<n->j<=n->S (M i k*CJ k M k j)=true):∃M',Cb S n k M=.ok M'/\∀i j,i<n->M' i j=CJ k M i j:=by
 have aa:M k k*(M k k)⁻¹=1:=yy _ h0;have hz:=hu.zeros hk (zB _)
 have d:∀j,Bc k M k j=CJ k M k j:=fun j=>by
  unfold Bc CJ;rw[zE rfl]
  by_cases c:k<=j
  .rw[zE ⟨rfl,c⟩,xu]
  rw[zC fun h=>c h.2,hz j (by omega)];grind
 have a:∀i j,i≠k->Bc k M i j=M i j:=fun i j e=>by unfold Bc;rw[zC fun h=>e h.1]
 have he:=Lr (S:=S) (n:=n) (k:=k) (M:=Bc k M) (zB n) fun i hi s j _ hj=>by
  rw[a i k s,d,a i j s];exact⟨h1 i k hi (by omega),h2 j hj,h1 i j hi hj,h3 i j hi hj⟩
 refine⟨fun i j=>if i<n/\i≠k/\k<=j then Bc k M i j-Bc k M i k*Bc k M k j else Bc k M i j,?_,?_⟩
 .unfold Cb;rw[Np hk h0];dsimp only;rw[Qe,zE,he];rw[CV];intro j _ hj;exact⟨h1 k j hk hj,h1 k k hk (by omega)⟩
 intro i j hi
 by_cases e:i=k
 .subst e;dsimp only;rw[zC fun h=>h.2.1 rfl,d]
 unfold CJ;dsimp only;rw[zC e]
 by_cases c:k<=j
 .rw[zE ⟨hi,e,c⟩,a i j e,a i k e,d];unfold CJ;rw[zE rfl]
 rw[zC fun h=>c h.2.2,a i j e,hz j (by omega)];grind
def Fit(B:Nat)(x:Rat):Prop:=-1<=x/\x<=1/\∃d:Nat,0<d/\d<=B/\IsI ((d:Rat)*x)
theorem Shs.congr{n:Nat}{M M':Mx}{v:Nat->Rat}(h:Shs n M v)(e:∀i j,i<n->M' i j=M i j):Shs n M' v:=by
 refine⟨fun i hi=>by rw[e i i hi];exact h.le1 i hi,fun i j hi hj hn=>by rw[e i j hi];exact h.off i j hi hj hn,fun i hi=>by rw[e i n hi];exact h.rhs i hi,fun i hi=>?_,fun i hi=>?_,h.vnn⟩
 .rw[e i n hi,Az (f:=M' i) (g:=M i) fun j _=>e i j hi];exact h.slack i hi
 rw[Az (g:=fun j=>M i j*v j) fun j _=>by rw[e i j hi]];exact h.pos i hi
theorem Mad.congr{n k:Nat}{A M M':Mx}(h:Mad n k A M)(e:∀i j,i<n->M' i j=M i j):Mad n k A M':=by
 refine⟨fun i j hi hj=>by rw[e i j hi];exact h.unit i j hi hj,fun i hi=>?_,?_⟩
 .obtain⟨y,h1,h2⟩:=h.comb i hi;exact⟨y,h1,fun j hj=>by rw[e i j hi];exact h2 j hj⟩
 obtain⟨P,h1,h2,h3⟩:=h.dets;exact⟨P,h1,h2,fun K a b=>by rw[h3 K a b,Ek fun i j hi _=>(e i j (by omega)).symm]⟩
theorem IsI.nat(n:Nat):IsI (n:Rat):=⟨n,(wN n).symm⟩
theorem IsI.toNat{x:Rat}(h:IsI x)(h0:0<x):∃d:Nat,x=(d:Rat)/\0<d:=by
 obtain⟨z,rfl⟩:=h
 have h1:0<z:=by
  have:((0:Int):Rat)<(z:Rat):=h0;exact Rat.intCast_lt_intCast.1 this
 refine⟨z.toNat,?_,by omega⟩;have:((z.toNat:Nat):Int)=z:=by omega
 rw[<-wN,this]
theorem Nq{a b:Nat}(h:(a:Rat)<=(b:Rat)):a<=b:=Rat.natCast_le_natCast.1 h
theorem Ha{c:Rat}(h:0<c)(n:Nat):0<c^n:=by
 induction n with
 |zero=>rw[Rat.pow_zero];decide
 |succ n ih=>rw[vl];exact vP ih h
structure Sys(n c D:Nat)(A:Mx)(v:Nat->Rat):Prop where
 shs:Shs n A v
 cp:0<c
 dp:0<D
 lhs:∀i j,i<n->j<n->IsI ((c:Rat)*A i j)
 rgt:∀i,i<n->IsI ((c:Rat)*(D:Rat)*A i n)
theorem Sys.det_nat{n c D k:Nat}{A M:Mx}{v:Nat->Rat}(h:Sys n c D A v)(hm:Mad n k A M)(hk:k<=n):∃d:Nat,0<d/\d<=c^k/\(c:Rat)^k*det k A=(d:Rat):=by
 obtain⟨d1,d2⟩:=hm.det_k hk;have hc:0<(c:Rat):=by have:=h.cp;exact Rat.natCast_pos.2 this
 have hI:IsI ((c:Rat)^k*det k A):=by
  have:=Kh (n:=k) (s:=fun _=>(c:Rat)) (M:=A) fun i j hi hj=>h.lhs i j (by omega) (by omega)
  rwa [EB]at this
 obtain⟨d,e1,e2⟩:=hI.toNat (vP (Ha hc k) d1);refine⟨d,e2,Nq ?_,e1⟩;rw[<-e1,Rat.natCast_pow];have:=yC d2 (yu (Ha hc k));grind
theorem Sys.fit{n c D k i j:Nat}{A M:Mx}{v:Nat->Rat}(h:Sys n c D A v)(hm:Mad n k A M)(hs:Shs n M v)(hk:k<=n)(hi:i<n)(hj:j<=n):Fit (c^(n+1)*D) (M i j):=by
 obtain⟨a1,a2⟩:=hs.abs hi hj;obtain⟨d,d1,d2,d3⟩:=h.det_nat hm hk;refine⟨a1,a2,d*(c*D),wl d1 (wl h.cp h.dp),?_,?_⟩
 .have h1:d<=c^n:=zV d2 (zW h.cp hk);rw[zy,zz];exact yO _ h1
 have:=hm.int_all hk (IsI.nat c) h.lhs h.rgt (IsI.nat D) hi hj;rw[d3]at this
 simpa [xI] using this
theorem Sys.solve{S:Rat->Bool}{n c D:Nat}{A:Mx}{v:Nat->Rat}(h:Sys n c D A v)(hS:∀x,Fit ((c^(n+1)*D)*(c^(n+1)*D)) x->S x=true):
 ∀k,k<=n->∃M,Ax S n k A=.ok M/\Shs n M v/\Mad n k A M:=by
 have hB:0<c^(n+1)*D:=wl (wh h.cp) h.dp
 have s:∀x,Fit (c^(n+1)*D) x->S x=true:=fun x hx=>by
  obtain⟨a1,a2,d,d1,d2,d3⟩:=hx;refine hS x ⟨a1,a2,d,d1,zV d2 ?_,d3⟩;exact Nat.le_mul_of_pos_left _ hB
 have ab:∀x y,Fit (c^(n+1)*D) x->Fit (c^(n+1)*D) y->S (x*y)=true:=fun x y hx hy=>by
  obtain⟨a1,a2,d,d1,d2,d3⟩:=hx;obtain⟨b1,b2,e,e1,e2,e3⟩:=hy
  have aa:x*y<=1/\-1<=x*y:=by
   have p1:=xR (a:=1-x) (b:=1-y) (by grind) (by grind);have p2:=xR (a:=1+x) (b:=1+y) (by grind) (by grind);have p3:=xR (a:=1-x) (b:=1+y) (by grind) (by grind);have p4:=xR (a:=1+x) (b:=1-y) (by grind) (by grind);constructor
   .grind
   grind
  refine hS _ ⟨aa.2,aa.1,d*e,wl d1 e1,xk d2 e2,?_⟩;have:=d3.mul e3;have e:(d:Rat)*x*((e:Rat)*y)=((d*e:Nat):Rat)*(x*y):=by rw[xI];grind
  rwa [e]at this
 intro k
 induction k with
 |zero=>intro _;exact⟨A,rfl,h.shs,Mad.start n A⟩
 |succ k ih=>
  intro hk;obtain⟨M,m1,m2,m3⟩:=ih (by omega);have hp:=m2.piv (show k<n by omega);have s1:=m2.step (show k<n by omega);have s2:=m3.step m2 (show k<n by omega);have f1:∀i j,i<n->j<=n->Fit (c^(n+1)*D) (M i j):=fun i j hi hj=>h.fit m3 m2 (by omega) hi hj;have f2:∀i j,i<n->j<=n->Fit (c^(n+1)*D) (CJ k M i j):=fun i j hi hj=>h.fit s2 s1 hk hi hj;obtain⟨M',e1,e2⟩:=Ls (S:=S) (show k<n by omega) m3.unit (by grind) (fun i j hi hj=>s _ (f1 i j hi hj)) (fun j hj=>s _ (f2 k j (by omega) hj)) fun i j hi hj=>ab _ _ (f1 i k hi (by omega)) (f2 k j (by omega) hj);refine⟨M',?_,s1.congr fun i j hi=>e2 i j hi,s2.congr fun i j hi=>e2 i j hi⟩;unfold Ax;rw[m1];exact e1
theorem Sys.result{S:Rat->Bool}{n c D:Nat}{A:Mx}{v:Nat->Rat}(h:Sys n c D A v)(hS:∀x,Fit ((c^(n+1)*D)*(c^(n+1)*D)) x->S x=true):
 ∃M,Ax S n n A=.ok M/\(∀y,Sol n A y (fun i=>A i n)<->∀i,i<n->y i=M i n)/\(∀i,i<n->0<=M i n/\M i n<=1)/\∃d:Nat,0<d/\d<=c^n/\∀i,i<n->IsI ((d*D:Nat)*M i n):=by
 obtain⟨M,m1,m2,m3⟩:=h.solve hS n (zB n);obtain⟨d,d1,d2,d3⟩:=h.det_nat m3 (zB n);refine⟨M,m1,(V3 m1).1,fun i hi=>⟨m2.rhs i hi,(m2.abs hi (zB n)).2⟩,d,d1,d2,fun i hi=>?_⟩;have:=m3.int_top (zB n) h.lhs h.rgt (IsI.nat D) hi (zB n);rw[d3]at this;rw[xI];exact this
end Sh
end
section
namespace Sh
open Nt Ci
abbrev Lp:=Nat×Nat×Rat
def A6(p:Nat)(f:Nat->Rat):List Lp->Rat
 | []=>0
 |x::l=>(if x.1=p then x.2.2*f x.2.1 else 0)+A6 p f l
theorem EC{p:Nat}{f g:Nat->Rat}{L:List Lp}(h:∀x,x∈L->x.1=p->f x.2.1=g x.2.1):A6 p f L=A6 p g L:=by
 induction L with
 |nil=>rfl
 |cons x l ih=>
  unfold A6;rw[ih fun y hy=>h y (zt _ hy)]
  by_cases e:x.1=p
  .rw[zE e,zE e,h x yG e]
  rw[zC e,zC e]
theorem Iq(p:Nat)(f g:Nat->Rat)(L:List Lp):A6 p (fun h=>f h+g h) L=A6 p f L+A6 p g L:=by
 induction L with
 |nil=>exact(vB 0).symm
 |cons x l ih=>unfold A6;rw[ih];split<;>grind
theorem Ir(p:Nat)(c:Rat)(f:Nat->Rat)(L:List Lp):A6 p (fun h=>c*f h) L=c*A6 p f L:=by
 induction L with
 |nil=>exact(Rat.mul_zero c).symm
 |cons x l ih=>unfold A6;rw[ih];split<;>grind
theorem Sv(p:Nat)(f g:Nat->Rat)(L:List Lp):A6 p (fun h=>f h-g h) L=A6 p f L-A6 p g L:=by
 induction L with
 |nil=>show (0:Rat)=0-0;grind
 |cons x l ih=>unfold A6;rw[ih];split<;>grind
theorem Em{p:Nat}{f:Nat->Rat}{L:List Lp}(h:∀x,x∈L->x.1=p->f x.2.1=0):A6 p f L=0:=by
 have h1:=Ir p 0 f L;rw[EC (g:=fun h=>0*f h) fun x hx e=>by rw[h x hx e,vW],h1,vW]
theorem Sw(p n:Nat)(g:Nat->Nat->Rat)(L:List Lp):Ao n (fun j=>A6 p (g j) L)=A6 p (fun h=>Ao n fun j=>g j h) L:=by
 induction n with
 |zero=>exact(Em fun _ _ _=>rfl).symm
 |succ n ih=>
  show (Ao n fun j=>A6 p (g j) L)+A6 p (g n) L=_
  rw[ih,<-Iq];rfl
structure Caps(n:Nat)(L:List Lp):Prop where
 lt:∀x,x∈L->x.1<n/\x.2.1<n
 whole:∀x,x∈L->IsI (6000*x.2.2)
 pos:∀x,x∈L->0<x.2.2
 le1:∀p,A6 p (fun _=>1) L<=1
def Ae(L:List Lp):List (Nat×Nat):=L.map fun x=>(x.2.1,x.1)
theorem Kj{p:Nat}{f g:Nat->Rat}{L:List Lp}(hp:∀x,x∈L->0<x.2.2)(h:∀x,x∈L->x.1=p->f x.2.1<=g x.2.1):A6 p f L<=A6 p g L:=by
 induction L with
 |nil=>exact xL
 |cons x l ih=>
  unfold A6;have h1:=ih (fun y hy=>hp y (zt _ hy)) fun y hy=>h y (zt _ hy)
  by_cases e:x.1=p
  .rw[zE e,zE e];have h2:=yC (h x yG e) (yu (hp x yG));grind
  rw[zC e,zC e];grind
theorem Gk{p:Nat}{f g:Nat->Rat}{L:List Lp}(hp:∀x,x∈L->0<x.2.2)(h:∀x,x∈L->x.1=p->f x.2.1<=g x.2.1){x0:Lp}(h0:x0∈L)(e0:x0.1=p):A6 p f L+x0.2.2*(g x0.2.1-f x0.2.1)<=A6 p g L:=by
 induction L with
 |nil=>cases h0
 |cons x l ih=>
  unfold A6
  rcases List.mem_cons.1 h0 with rfl|h0
  .rw[zE e0,zE e0];have h1:=Kj (p:=p) (f:=f) (g:=g) (L:=l) (fun y hy=>hp y (zt _ hy)) fun y hy=>h y (zt _ hy);grind
  have h1:=ih (fun y hy=>hp y (zt _ hy)) (fun y hy=>h y (zt _ hy)) h0
  by_cases e:x.1=p
  .rw[zE e,zE e];have h2:=yC (h x yG e) (yu (hp x yG));grind
  rw[zC e,zC e];grind
theorem Cj{p:Nat}{f:Nat->Rat}{L:List Lp}(hp:∀x,x∈L->0<x.2.2)(h:∀x,x∈L->x.1=p->0<=f x.2.1):0<=A6 p f L:=by
 have:=Kj (p:=p) (f:=fun _=>0) (g:=f) hp h
 rwa [Em fun _ _ _=>rfl]at this
theorem Caps.le_of{n p:Nat}{L:List Lp}{f:Nat->Rat}{c:Rat}(h:Caps n L)(hc:0<=c)(hf:∀x,x∈L->x.1=p->f x.2.1<=c):A6 p f L<=c:=by
 have h1:=Kj (p:=p) (f:=f) (g:=fun h=>c*(fun _=>1) h) h.pos fun x hx e=>by rw[Rat.mul_one];exact hf x hx e
 rw[Ir]at h1;have h2:=yC (h.le1 p) hc;grind
theorem Caps.int_sum{n p:Nat}{L:List Lp}{f:Nat->Rat}{D:Rat}(h:Caps n L)(hf:∀x,x∈L->x.1=p->IsI (D*f x.2.1)):IsI (6000*D*A6 p f L):=by
 have hw:=h.whole;clear h
 induction L with
 |nil=>show IsI (6000*D*0);rw[Rat.mul_zero];exact IsI.zero
 |cons x l ih=>
  unfold A6;have h1:=ih (fun y hy=>hf y (zt _ hy)) fun y hy=>hw y (zt _ hy)
  by_cases e:x.1=p
  .rw[zE e];have h2:=(hw x yG).mul (hf x yG e);have e2:6000*D*(x.2.2*f x.2.1+A6 p f l)=6000*x.2.2*(D*f x.2.1)+6000*D*A6 p f l:=by grind
   rw[e2];exact h2.add h1
  rw[zC e];have e2:6000*D*(0+A6 p f l)=6000*D*A6 p f l:=by grind
  rw[e2];exact h1
theorem Up{x:Rat}(h1:IsI (6000*x))(h2:0<x):1/6000<=x:=by
 obtain⟨d,e,hd⟩:=h1.toNat (by grind)
 have h3:(1:Rat)<=(d:Rat):=by
  have:((1:Nat):Rat)<=(d:Rat):=Rat.natCast_le_natCast.2 hd
  simpa using this
 grind
theorem IR{n:Nat}{L:List Lp}(hL:Caps n L)(d:Nat->Rat)(ρ:Nat->Nat)
 (h:∀p,p<n->0<d p->d p<=A6 p d L/\∃x,x∈L/\x.1=p/\ρ x.2.1<ρ p):∀p,p<n->d p<=0:=by
 intro p0 aa
 have key : ∀m,(∀p,p<m->d p<=0)\/∃q,q<m/\0<d q/\∀p,p<m->d p<d q\/(d p=d q/\ρ q<=ρ p):=by
  intro m
  induction m with
  |zero=>exact .inl fun p hp=>absurd hp (by omega)
  |succ m ih=>
   by_cases c:0<d m
   .rcases ih with ih|⟨q,q1,q2,q3⟩
    .refine .inr ⟨m,by omega,c,fun p hp=>?_⟩
     by_cases e:p=m
     .subst e;exact .inr ⟨rfl,zB _⟩
     have:=ih p (by omega);exact .inl (by grind)
    by_cases c2:d q<d m\/(d q=d m/\ρ m<=ρ q)
    .refine .inr ⟨m,by omega,c,fun p hp=>?_⟩
     by_cases e:p=m
     .subst e;exact .inr ⟨rfl,zB _⟩
     have:=q3 p (by omega)
     rcases c2 with c2|⟨c2,c3⟩
     .rcases this with t|⟨t,_⟩
      .exact .inl (by grind)
      exact .inl (by grind)
     rcases this with t|⟨t,t2⟩
     .exact .inl (by grind)
     exact .inr ⟨by grind,by omega⟩
    refine .inr ⟨q,by omega,q2,fun p hp=>?_⟩
    by_cases e:p=m
    .subst e
     by_cases c3:d p<d q
     .exact .inl c3
     refine .inr ?_;have h1:¬d q<d p:=fun a=>c2 (.inl a);have h2:d p=d q:=by grind
     refine⟨h2,?_⟩
     rcases xQ (ρ p) (ρ q) with a|a
     .exact absurd (Or.inr ⟨h2.symm,by omega⟩) c2
     exact a
    exact q3 p (by omega)
   rcases ih with ih|⟨q,q1,q2,q3⟩
   .refine .inl fun p hp=>?_
    by_cases e:p=m
    .subst e;exact Rat.not_lt.1 c
    exact ih p (by omega)
   refine .inr ⟨q,by omega,q2,fun p hp=>?_⟩
   by_cases e:p=m
   .subst e;exact .inl (by have:=Rat.not_lt.1 c;grind)
   exact q3 p (by omega)
 rcases key n with k|⟨q,q1,q2,q3⟩
 .exact k p0 aa
 exfalso;obtain⟨h1,x,x1,x2,x3⟩:=h q q1 q2
 have s:∀y,y∈L->d y.2.1<=d q:=fun y hy=>by
  rcases q3 _ (hL.lt y hy).2 with a|⟨a,_⟩
  .exact yu a
  rw[a];exact xL
 have hg:=Gk (p:=q) (f:=d) (g:=fun _=>d q) hL.pos (fun y hy _=>s y hy) x1 x2;have h2:A6 q (fun _=>d q) L<=d q:=hL.le_of (yu q2) fun _ _ _=>xL
 have h3:d x.2.1<d q:=by
  rcases q3 _ (hL.lt x x1).2 with a|⟨_,b⟩
  .exact a
  omega
 have h4:=vP (hL.pos x x1) (show 0<d q-d x.2.1 by grind);grind
def sysA(L:List Lp)(u:List Nat)(val:Nat->Rat):Mx:=fun i j=>
 let p:=u.getD i 0
 if j=u.length then A6 p (fun h=>if h∈u then 0 else val h) L
 else (if i=j then 1 else 0)-A6 p (fun h=>if h=u.getD j 0 then 1 else 0) L
def Ct(S:Rat->Bool)(L:List Lp)(u:List Nat)(val:Nat->Rat):Nat->Rat :=
 match Ax S u.length u.length (sysA L u val) with
 |.ok M=>fun p=>if p∈u then M (u.idxOf p) u.length else val p
 |.error _=>val
def Lt(S:Rat->Bool)(L:List Lp):List (List Nat)->(Nat->Rat)->Nat->Rat
 | [],val=>val
 |u::us,val=>Lt S L us (Ct S L u val)
theorem De{u:List Nat}{i:Nat}(h:i<u.length):u.getD i 0=u[i]:=by simp[List.getD,h]
theorem EX{u:List Nat}{i:Nat}(h:i<u.length):u.getD i 0∈u:=by
 rw[De h];exact zQ h
theorem Gl{u:List Nat}(hu:u.Nodup){i:Nat}(h:i<u.length):u.idxOf (u.getD i 0)=i:=by
 rw[De h];exact hu.idxOf_getElem i h
theorem EY{u:List Nat}{p:Nat}(h:p∈u):u.getD (u.idxOf p) 0=p:=by
 have:=List.idxOf_lt_length_iff.2 h;rw[De this];exact List.getElem_idxOf this
theorem Sx{u:List Nat}(hu:u.Nodup)(y:Nat->Rat)(h:Nat):(Ao u.length fun j=>(if h=u.getD j 0 then 1 else 0)*y j)=if h∈u then y (u.idxOf h) else 0:=by
 by_cases e:h∈u
 .rw[zE e,C9 (k:=u.idxOf h) _ (List.idxOf_lt_length_iff.2 e) fun j hj a=>?_]
  .rw[EY e,zE rfl,wH]
  rw[zC,vW];intro e2;rw[e2,Gl hu hj]at a;exact a rfl
 rw[zC e];exact CT fun j hj=>by rw[zC (fun e2=>e (by rw[e2];exact EX hj)),vW]
theorem Is{L:List Lp}{u:List Nat}{val:Nat->Rat}(hu:u.Nodup){i:Nat}(hi:i<u.length)(y:Nat->Rat):
 (Ao u.length fun j=>sysA L u val i j*y j)=y i-A6 (u.getD i 0) (fun h=>if h∈u then y (u.idxOf h) else 0) L:=by
 rw [Az (g:=fun j=>(if i=j then 1 else 0)*y j+(-1)*A6 (u.getD i 0) (fun h=>y j*if h=u.getD j 0 then 1 else 0) L) fun j hj=>by
  unfold sysA;dsimp only;rw[zC (by omega),Ir];grind]
 rw[CU,Bo,C9 (k:=i) _ hi fun j _ a=>by rw[zC (fun e=>a e.symm),vW],zE rfl,wH,Sw]
 rw [EC (g:=fun h=>if h∈u then y (u.idxOf h) else 0) fun x _ _=>by
  rw[<-Sx hu];exact Az fun j _=>vV _ _]
 grind
theorem Sy{L:List Lp}{u:List Nat}{val:Nat->Rat}(hu:u.Nodup)(y:Nat->Rat):
 Sol u.length (sysA L u val) y (fun i=>sysA L u val i u.length)<->∀i,i<u.length->y i=A6 (u.getD i 0) (fun h=>if h∈u then y (u.idxOf h) else val h) L:=by
 have key:∀i,i<u.length->((Ao u.length fun j=>sysA L u val i j*y j)=sysA L u val i u.length<->y i=A6 (u.getD i 0) (fun h=>if h∈u then y (u.idxOf h) else val h) L):=by
  intro i hi;rw[Is hu hi,EC (f:=fun h=>if h∈u then y (u.idxOf h) else val h) (g:=fun h=>(if h∈u then y (u.idxOf h) else 0)+(if h∈u then 0 else val h)) fun x _ _=>by split<;>grind,Iq]
  have e:sysA L u val i u.length=A6 (u.getD i 0) (fun h=>if h∈u then 0 else val h) L:=by
   unfold sysA;dsimp only;rw[zE rfl]
  rw[e];constructor<;>intro h<;>grind
 unfold Sol;exact⟨fun h i hi=>(key i hi).1 (h i hi),fun h i hi=>(key i hi).2 (h i hi)⟩
theorem Fit.mono{B B':Nat}{x:Rat}(h:Fit B x)(hB:B<=B'):Fit B' x:=by
 obtain⟨a,b,d,d1,d2,d3⟩:=h;exact⟨a,b,d,d1,zV d2 hB,d3⟩
structure Inv(L:List Lp)(F:List Nat)(done:List Nat)(val:Nat->Rat)(D:Nat):Prop where
 rng:∀p,0<=val p/\val p<=1
 dp:0<D
 dle:D<=6000^done.length
 whole:∀p,IsI ((D:Rat)*val p)
 eqs:∀p,p∈done->val p=A6 p val L
 rest:∀p,p∉done->val p=if p∈F then 1 else 0
 clo:∀p,p∈done->∀x,x∈L->x.1=p->rk (Ae L) F x.2.1<=0\/x.2.1∈done
 dn:∀p,p∈done->0<rk (Ae L) F p
theorem Inv.start(L:List Lp)(F:List Nat):Inv L F [] (fun p=>if p∈F then 1 else 0) 1:=by
 refine⟨fun p=>?_,by omega,by simp,fun p=>?_,fun p h=>by simp at h,fun p _=>rfl,fun p h=>by simp at h,fun p h=>by simp at h⟩
 .split<;>constructor<;>decide
 split
 .exact(IsI.nat 1).mul IsI.one
 exact(IsI.nat 1).mul IsI.zero
structure Nxt(L:List Lp)(F:List Nat)(done u:List Nat):Prop where
 nodup:u.Nodup
 new:∀p,p∈u->p∉done
 pos:∀p,p∈u->0<rk (Ae L) F p
 clo:∀p,p∈u->∀x,x∈L->x.1=p->rk (Ae L) F x.2.1<=0\/x.2.1∈u\/x.2.1∈done
def Ready(L:List Lp)(F:List Nat):List Nat->List (List Nat)->Prop
 |_,[]=>True
 |done,u::us=>Nxt L F done u/\Ready L F (done++u) us
def tq:Rat:=1/12000
theorem It(k:Nat):0<tq^k/\tq^k<=1:=by
 induction k with
 |zero=>rw[Rat.pow_zero];constructor<;>decide
 |succ k ih=>
  rw[vl];have h1:(0:Rat)<tq:=by unfold tq;grind
  refine⟨vP ih.1 h1,?_⟩;have h2:=yC (show tq<=1 by unfold tq;grind) (yu ih.1);grind
theorem GC{L:List Lp}{h p:Nat}(e:(h,p)∈Ae L):∃x,x∈L/\x.1=p/\x.2.1=h:=by
 unfold Ae at e;obtain⟨x,hx,e2⟩:=List.mem_map.1 e;injection e2 with a b;exact⟨x,hx,b,a⟩
theorem Jv{L:List Lp}{x:Lp}(h:x∈L):(x.2.1,x.1)∈Ae L:=List.mem_map.2 ⟨x,h,rfl⟩
theorem Nxt.sys{n D:Nat}{L:List Lp}{F done u:List Nat}{val:Nat->Rat}(hL:Caps n L)(hi:Inv L F done val D)(hx:Nxt L F done u):
 Sys u.length 6000 D (sysA L u val) (fun j=>1-tq^(rk (Ae L) F (u.getD j 0)).toNat):=by
 have one01:∀(c:Prop)[Decidable c],0<=(if c then (1:Rat) else 0):=fun c _=>by split<;>decide
 refine⟨⟨fun i s=>?_,fun i j h1 h2 h3=>?_,fun i h1=>?_,fun i h1=>?_,fun i h1=>?_,fun j _=>?_⟩,by omega,hi.dp,fun i j h1 h2=>?_,fun i h1=>?_⟩
 .unfold sysA;dsimp only;rw[zC (by omega),zE rfl];have:=Cj (p:=u.getD i 0) (f:=fun h=>if h=u.getD i 0 then 1 else 0) hL.pos fun x _ _=>one01 _;grind
 .unfold sysA;dsimp only;rw[zC (by omega),zC (fun e=>h3 e.symm)];have:=Cj (p:=u.getD i 0) (f:=fun h=>if h=u.getD j 0 then 1 else 0) hL.pos fun x _ _=>one01 _;grind
 .unfold sysA;dsimp only;rw[zE rfl]
  exact Cj hL.pos fun x _ _=>by
   split
   .exact xL
   exact(hi.rng _).1
 .have h2:=Is (L:=L) (val:=val) hx.nodup h1 (fun _=>1);rw[Az (g:=sysA L u val i) fun j _=>Rat.mul_one _]at h2;rw[h2];unfold sysA;dsimp only;rw[zE rfl]
  have h3:A6 (u.getD i 0) (fun h=>(if h∈u then 0 else val h)+if h∈u then 1 else 0) L<=1:=hL.le_of (by decide) fun x _ _=>by
   split
   .grind
   have:=(hi.rng x.2.1).2;grind
  rw[Iq]at h3;grind
 .rw [Is hx.nodup h1];have hp:=hx.pos _ (EX h1);obtain⟨r,hr⟩:∃r:Nat,rk (Ae L) F (u.getD i 0)=((r+1:Nat):Int):=⟨(rk (Ae L) F (u.getD i 0)).toNat-1,by omega⟩;obtain⟨h0,k1,k2⟩:=FX hr;obtain⟨x0,x1,x2,x3⟩:=GC k2
  have hg:=Gk (p:=u.getD i 0) (f:=fun h=>if h∈u then 1-tq^(rk (Ae L) F (u.getD (u.idxOf h) 0)).toNat else 0) (g:=fun _=>1) hL.pos (fun y _ _=>by
   split
   .have:=(It (rk (Ae L) F (u.getD (u.idxOf y.2.1) 0)).toNat).1;grind
   decide) x1 x2
  have aa:=hL.le1 (u.getD i 0);have d:=Up (hL.whole x0 x1) (hL.pos x0 x1)
  have a:tq^r<=1-(if x0.2.1∈u then 1-tq^(rk (Ae L) F (u.getD (u.idxOf x0.2.1) 0)).toNat else 0):=by
   split
   .next e=>
    rw[EY e,x3,k1]
    show tq^r<=1-(1-tq^((r:Int)).toNat)
    rw[Int.toNat_natCast];grind
   have:=(It r).2;grind
  have e1:((rk (Ae L) F (u.getD i 0)).toNat)=r+1:=by rw[hr];exact Int.toNat_natCast _
  rw[e1,vl];have h5:=yC a (yu (hL.pos x0 x1));have h6:=yC d (yu (It r).1);have h7:tq^r*tq<tq^r*(1/6000):=Rat.mul_lt_mul_of_pos_left (by unfold tq;grind) (It r).1;grind
 .have:=(It (rk (Ae L) F (u.getD j 0)).toNat).2;grind
 .unfold sysA;dsimp only;rw[zC (by omega)]
  have h3:=hL.int_sum (p:=u.getD i 0) (f:=fun h=>if h=u.getD j 0 then 1 else 0) (D:=1) fun x _ _=>by
   split
   .exact IsI.one.mul IsI.one
   exact IsI.one.mul IsI.zero
  have h4:IsI ((if i=j then 1 else 0)*6000):=by
   split
   .exact IsI.one.mul (IsI.nat 6000)
   exact IsI.zero.mul (IsI.nat 6000)
  have e:((6000:Nat):Rat)*((if i=j then 1 else 0)-A6 (u.getD i 0) (fun h=>if h=u.getD j 0 then 1 else 0) L)=(if i=j then 1 else 0)*6000+-(6000*1*A6 (u.getD i 0) (fun h=>if h=u.getD j 0 then 1 else 0) L):=by
   rw[show ((6000:Nat):Rat)=6000 from rfl];grind
  rw[e];exact h4.add h3.neg
 unfold sysA;dsimp only;rw[zE rfl]
 exact hL.int_sum fun x _ _=>by
  split
  .rw[Rat.mul_zero];exact IsI.zero
  exact hi.whole _
theorem Jw{m d D:Nat}(h1:D<=6000^d)(h2:d+m<=16):(6000^(m+1)*D)*(6000^(m+1)*D)<=6000^34:=by
 have h3:6000^(m+1)*D<=6000^17:=by
  calc 6000^(m+1)*D<=6000^(m+1)*6000^d:=yT _ h1
   _=6000^(m+1+d):=(xf _ _ _).symm
   _<=6000^17:=zW (by omega) (by omega)
 calc _<=6000^17*6000^17:=xk h3 h3
  _=6000^34:=(xf _ _ _).symm
theorem Inv.step{n D:Nat}{S:Rat->Bool}{L:List Lp}{F done u:List Nat}{val:Nat->Rat}(hL:Caps n L)(hS:∀x,Fit (6000^34) x->S x=true)
 (hi:Inv L F done val D)(hx:Nxt L F done u)(ad:done.length+u.length<=16):
 ∃M D',Ax S u.length u.length (sysA L u val)=.ok M/\Inv L F (done++u) (Ct S L u val) D':=by
 obtain⟨M,m1,m2,m3,d,d1,d2,d3⟩:=(hx.sys hL hi).result (S:=S) fun x h=>hS x (h.mono (Jw hi.dle ad));have hv:Ct S L u val=fun p=>if p∈u then M (u.idxOf p) u.length else val p:=by unfold Ct;rw[m1]
 have ae:=(Sy (L:=L) (val:=val) hx.nodup fun i=>M i u.length).1 ((m2 _).2 fun _ _=>rfl);have ab:∀{p},p∈u->u.idxOf p<u.length:=fun h=>List.idxOf_lt_length_iff.2 h
 have aa:∀p,p∈done->A6 p (fun q=>if q∈u then M (u.idxOf q) u.length else val q) L=A6 p val L:=fun p hp=>EC fun x s e=>by
  rw[zC];intro hm
  rcases hi.clo p hp x s e with a|a
  .have:=hx.pos _ hm;omega
  exact hx.new _ hm a
 refine⟨M,d*D,m1,?_⟩;rw[hv];refine⟨fun p=>?_,wl d1 hi.dp,?_,fun p=>?_,fun p hp=>?_,fun p hp=>?_,fun p hp x s e=>?_,fun p hp=>?_⟩
 .split
  .next e=>exact m3 _ (ab e)
  exact hi.rng p
 .rw[zY,xf,zw];exact xk hi.dle d2
 .split
  .next e=>exact d3 _ (ab e)
  have:=(IsI.nat d).mul (hi.whole p)
  rwa [xI,Rat.mul_assoc]
 .by_cases e:p∈u
  .rw[zE e];have:=ae _ (ab e)
   rwa [EY e]at this
  rw[zC e]
  rcases List.mem_append.1 hp with h|h
  .rw[aa p h];exact hi.eqs p h
  exact absurd h e
 .rw[zC (fun h=>hp (xE _ h))];exact hi.rest p fun h=>hp (yq _ h)
 .rcases List.mem_append.1 hp with h|h
  .rcases hi.clo p h x s e with a|a
   .exact .inl a
   exact .inr (yq _ a)
  rcases hx.clo p h x s e with a|a|a
  .exact .inl a
  .exact .inr (xE _ a)
  exact .inr (yq _ a)
 rcases List.mem_append.1 hp with h|h
 .exact hi.dn p h
 exact hx.pos p h
theorem Inv.run{n:Nat}{S:Rat->Bool}{L:List Lp}{F:List Nat}(hL:Caps n L)(hS:∀x,Fit (6000^34) x->S x=true):
 ∀(us:List (List Nat)) (done:List Nat) (val:Nat->Rat) (D:Nat),Inv L F done val D->Ready L F done us->done.length+us.flatten.length<=16->∃D',Inv L F (done++us.flatten) (Lt S L us val) D':=by
 intro us
 induction us with
 |nil=>intro done val D hi _ _;exact⟨D,by simpa [Lt] using hi⟩
 |cons u us ih=>
  intro done val D hi hr a;rw[wL,zY]at a;obtain⟨M,D',_,h⟩:=hi.step hL hS hr.1 (by omega);have:=ih (done++u) _ D' h hr.2 (by rw[zY];omega);rw[wL,<-xS];exact this
structure Eff(n:Nat)(L:List Lp)(F:List Nat)(e:Nat->Rat):Prop where
 rng:∀p,0<=e p/\e p<=1
 listed:∀p,p∈F->e p=1
 o:∀p,p<n->rk (Ae L) F p<0->e p=0
 sum:∀p,p<n->p∉F->e p=A6 p e L
 pos:∀p,p<n->(0<e p<->0<=rk (Ae L) F p)
theorem Inv.eff{n D:Nat}{L:List Lp}{F done:List Nat}{val:Nat->Rat}(hL:Caps n L)(hi:Inv L F done val D)(d:∀p,p<n->0<rk (Ae L) F p->p∈done):Eff n L F val:=by
 have s:InN n (Ae L):=fun y hy=>by
  obtain⟨x,hx,rfl⟩:=List.mem_map.1 hy;exact⟨(hL.lt x hx).2,(hL.lt x hx).1⟩
 have hl:∀p,p∈F->val p=1:=fun p hp=>by
  have:p∉done:=fun h=>by
   have h1:=hi.dn p h;have h2:rk (Ae L) F p=0:=Cv.2 hp;omega
  rw[hi.rest p this,zE hp]
 have ho:∀p,p<n->rk (Ae L) F p<0->val p=0:=fun p _ hr=>by
  rw[hi.rest p fun h=>by have:=hi.dn p h;omega,zC fun h=>by have:rk (Ae L) F p=0:=Cv.2 h;omega]
 have hs:∀p,p<n->p∉F->val p=A6 p val L:=fun p hp hF=>by
  by_cases c:0<rk (Ae L) F p
  .exact hi.eqs p (d p hp c)
  have c0:rk (Ae L) F p≠0:=fun e=>hF (Cv.1 e);rw[ho p hp (by omega)];refine(Em fun x hx e=>ho _ (hL.lt x hx).2 ?_).symm
  rcases Int.lt_or_le (rk (Ae L) F x.2.1) 0 with a|a
  .exact a
  have:=JP a (Jv hx);rw[e]at this;omega
 refine⟨hi.rng,hl,ho,hs,fun p hp=>⟨fun h=>?_,fun h=>?_⟩⟩
 .rcases Int.lt_or_le (rk (Ae L) F p) 0 with a|a
  .rw[ho p hp a]at h;exact absurd h (by decide)
  exact a
 obtain⟨r,hr⟩:∃r:Nat,rk (Ae L) F p=(r:Int):=⟨(rk (Ae L) F p).toNat,by omega⟩;clear h
 induction r generalizing p with
 |zero=>rw[hl p (Cv.1 hr)];decide
 |succ r ih=>
  have hF:p∉F:=fun h=>by have:rk (Ae L) F p=0:=Cv.2 h;omega
  obtain⟨h0,k1,k2⟩:=FX hr;obtain⟨x0,x1,x2,x3⟩:=GC k2;have h4:=ih x0.2.1 (hL.lt x0 x1).2 (by rw[x3];exact k1);have h5:=Gk (p:=p) (f:=fun _=>0) (g:=val) hL.pos (fun y _ _=>(hi.rng _).1) x1 x2;rw[Em fun _ _ _=>rfl]at h5;rw[hs p hp hF];have h6:=vP (hL.pos x0 x1) h4;grind
section eff
variable {n:Nat} {L:List Lp} {F:List Nat} {e:Nat->Rat}
theorem Eff.least(hL:Caps n L)(h:Eff n L F e){v:Nat->Rat}(h0:∀p,p<n->0<=v p)(h1:∀p,p<n->p∈F->1<=v p)(h2:∀p,p<n->p∉F->A6 p v L<=v p):∀p,p<n->e p<=v p:=by
 intro p hp
 have:=IR hL (fun p=>e p-v p) (fun p=>(rk (Ae L) F p).toNat) (fun p hp hd=>by
  have d:0<e p:=by have:=h0 p hp;grind
  have hr:=(h.pos p hp).1 d
  have hF:p∉F:=fun hm=>by
   have a:=h.listed p hm;have b:=h1 p hp hm;grind
  have s:rk (Ae L) F p≠0:=fun e=>hF (Cv.1 e);refine⟨?_,?_⟩
  .rw[Sv,<-h.sum p hp hF];have:=h2 p hp hF;grind
  obtain⟨r,hr⟩:∃r:Nat,rk (Ae L) F p=((r+1:Nat):Int):=⟨(rk (Ae L) F p).toNat-1,by omega⟩;obtain⟨h0,k1,k2⟩:=FX hr;obtain⟨x0,x1,x2,x3⟩:=GC k2;exact⟨x0,x1,x2,by rw[x3];omega⟩) p hp
 grind
theorem Eff.one(hL:Caps n L){e':Nat->Rat}(h:Eff n L F e)(h':Eff n L F e'):∀p,p<n->e p=e' p:=fun p hp=>by
 have a:=h.least hL (fun q _=>(h'.rng q).1) (fun q _ hq=>by rw[h'.listed q hq];exact xL) (fun q hq hF=>by rw[<-h'.sum q hq hF];exact xL) p hp;have b:=h'.least hL (fun q _=>(h.rng q).1) (fun q _ hq=>by rw[h.listed q hq];exact xL) (fun q hq hF=>by rw[<-h.sum q hq hF];exact xL) p hp;grind
end eff
end Sh
end
section
namespace Ci
section
variable {E:List (Nat×Nat)} {n p q:Nat}
theorem Qf{l:List Nat}(h:l.Nodup){i j:Nat}{hi:i<l.length}{hj:j<l.length}(e:l[i]=l[j]):i=j:=by
 have hp:=List.pairwise_iff_getElem.1 h
 rcases v5 i j with c|c|c
 .exact absurd e (hp i j hi hj c)
 .exact c
 exact absurd e.symm (hp j i hj hi c)
theorem Lu(hE:InN n E):p∈ords n E<->p<n/\fst E p=p:=by
 unfold ords;rw[JQ n _ (Left.start hE) CN];exact B8
theorem FR(hE:InN n E):(ords n E).Nodup:=(IX n _ (Left.start hE) CN).1
theorem Lw(hE:InN n E):(ords n E).length<=n:=by
 have:=(IX n _ (Left.start hE) CN).2;have h2:=CN (n:=n) (E:=E);unfold ords;omega
theorem Fu:(Aj n E).length=(ords n E).length:=by simp[Aj]
theorem Fv{k:Nat}(hk:k<(Aj n E).length):(Aj n E)[k]=CD n E ((ords n E)[k]'(by simpa [Aj] using hk)):=by simp[Aj]
noncomputable def at'(n:Nat)(E:List (Nat×Nat))(p:Nat):Nat:=(ords n E).idxOf (fst E p)
theorem Jy(hE:InN n E)(hp:p<n):at' n E p<(ords n E).length:=List.idxOf_lt_length_iff.2 ((Lu hE).2 ⟨FF hp,Fn⟩)
theorem Kk(hE:InN n E)(hp:p<n):(ords n E)[at' n E p]'(Jy hE hp)=fst E p:=List.getElem_idxOf (Jy hE hp)
theorem GD(hE:InN n E)(hp:p<n){k:Nat}(hk:k<(Aj n E).length):p∈(Aj n E)[k]<->k=at' n E p:=by
 have a:k<(ords n E).length:=by rwa [Fu]at hk
 have ho:=(Lu hE).1 (zQ a);rw[Fv,Db];constructor
 .rintro ⟨_,hm⟩
  have h1:(ords n E)[k]=(ords n E)[at' n E p]'(Jy hE hp):=by
   rw[Kk hE hp,<-ho.2];exact Ey hm
  exact Qf (FR hE) h1
 intro e;subst e;refine⟨hp,?_⟩;rw[Kk hE hp];exact CX.symm
theorem Uq(hE:InN n E)(e:(p,q)∈E):at' n E p<=at' n E q:=by
 obtain⟨hp,hq⟩:=hE _ e;exact Pn n _ (Left.start hE) CN _ _ (Jy hE hp) (Jy hE hq) p q e (Kk hE hp).symm (Kk hE hq).symm
variable {F F':List Nat}
end
end Ci
end
section
namespace Sh
open Nt Ci
noncomputable def unk(E:List (Nat×Nat))(F:List Nat)(c:List Nat):List Nat:=c.filter fun p=>decide (0<rk E F p)
noncomputable def BP(n:Nat)(E:List (Nat×Nat))(F:List Nat):List (List Nat):=(Aj n E).map (unk E F)
theorem DR{E:List (Nat×Nat)}{F c:List Nat}{p:Nat}:p∈unk E F c<->p∈c/\0<rk E F p:=by
 unfold unk;rw[List.mem_filter,wO]
theorem EZ{n:Nat}{E:List (Nat×Nat)}{k:Nat}(hk:k<(Aj n E).length):((Aj n E)[k]).Nodup:=by
 rw[Fv];exact Mu
theorem Iu{n:Nat}{E:List (Nat×Nat)}{F:List Nat}{k:Nat}(hk:k<(Aj n E).length):(BP n E F)[k]'(by unfold BP;rw[zU];exact hk)=unk E F (Aj n E)[k]:=by
 unfold BP;rw[yA]
theorem Da{n:Nat}{E:List (Nat×Nat)}{F:List Nat}(hE:InN n E){t p:Nat}(ht:t<=(Aj n E).length):p∈((BP n E F).take t).flatten<->p<n/\0<rk E F p/\at' n E p<t:=by
 have hl:(BP n E F).length=(Aj n E).length:=by unfold BP;rw[zU]
 rw[List.mem_flatten];constructor
 .rintro ⟨u,hu,hp⟩;obtain⟨k,hk,rfl⟩:=zl hu;rw[xY]at hk;have a:k<(Aj n E).length:=by omega
  rw[List.getElem_take,Iu a,DR]at hp
  have d:p<n:=by
   rw[Fv,Db]at hp;exact hp.1.1
  have:=(GD hE d a).1 hp.1;exact⟨d,hp.2,by omega⟩
 rintro⟨h1,h2,h3⟩;have a:at' n E p<(Aj n E).length:=by omega
 refine⟨(BP n E F)[at' n E p]'(by omega),?_,?_⟩
 .rw[List.mem_iff_getElem];exact⟨at' n E p,by rw[xY];omega,by rw[List.getElem_take]⟩
 rw[Iu a,DR];exact⟨(GD hE h1 a).2 rfl,h2⟩
theorem Nr{n:Nat}{L:List Lp}{F:List Nat}(hE:InN n (Ae L)):∀(m t:Nat),t+m=(Aj n (Ae L)).length->Ready L F ((BP n (Ae L) F).take t).flatten ((BP n (Ae L) F).drop t):=by
 have hl:(BP n (Ae L) F).length=(Aj n (Ae L)).length:=by unfold BP;rw[zU]
 intro m
 induction m with
 |zero=>
  intro t ht;rw[List.drop_eq_nil_of_le (by omega)];trivial
 |succ m ih=>
  intro t ht;have a:t<(Aj n (Ae L)).length:=by omega
  have h:t<(BP n (Ae L) F).length:=by omega
  rw[wA h];refine⟨?_,?_⟩
  .rw [Iu a];refine⟨(EZ a).filter _,fun p hp hd=>?_,fun p hp=>(DR.1 hp).2,fun p hp x hx e=>?_⟩
   .have h1:=(Da hE (by omega)).1 hd;have h2:=(GD hE h1.1 a).1 (DR.1 hp).1;omega
   by_cases c:rk (Ae L) F x.2.1<=0
   .exact .inl c
   have he:=Jv hx;rw[e]at he;have d:x.2.1<n/\p<n:=hE _ he;have h2:=(GD hE d.2 a).1 (DR.1 hp).1;have h3:at' n (Ae L) x.2.1<=at' n (Ae L) p:=Uq hE he
   by_cases c2:at' n (Ae L) x.2.1=t
   .exact .inr (.inl (DR.2 ⟨(GD hE d.1 a).2 c2.symm,by omega⟩))
   exact .inr (.inr ((Da hE (by omega)).2 ⟨d.1,by omega,by omega⟩))
  have h1:=ih (t+1) (by omega);rw[List.take_add_one,yR h,Option.toList_some,xV,List.flatten_singleton]at h1;exact h1
theorem Fw{n:Nat}{L:List Lp}{F:List Nat}(hE:InN n (Ae L)):Ready L F [] (BP n (Ae L) F):=by
 have:=Nr (F:=F) hE (Aj n (Ae L)).length 0 (by omega)
 simpa using this
theorem Sz{n:Nat}{L:List Lp}{F:List Nat}(hE:InN n (Ae L)){p:Nat}(hp:p<n)(hr:0<rk (Ae L) F p):p∈(BP n (Ae L) F).flatten:=by
 have hl:(BP n (Ae L) F).length=(Aj n (Ae L)).length:=by unfold BP;rw[zU]
 have h1:=(Da (F:=F) hE (t:=(Aj n (Ae L)).length) (zB _)).2 ⟨hp,hr,by have:=Jy hE hp;rw[Fu];exact this⟩
 rwa [yK (by omega)]at h1
theorem Ready.drop_nil{L:List Lp}{F:List Nat}:∀{us:List (List Nat)} {done:List Nat},Ready L F done us->Ready L F done (us.filter fun u=>decide (u≠[])):=by
 intro us
 induction us with
 |nil=>intro done _;trivial
 |cons u us ih=>
  intro done h;rw[yv]
  by_cases e:u=[]
  .rw[zC (by simp[e])];have h2:=h.2;rw[e,wT]at h2;exact ih h2
  rw[zE (by simp[e])];exact⟨h.1,ih h.2⟩
theorem DS(us:List (List Nat)):(us.filter fun u=>decide (u≠[])).flatten=us.flatten:=by
 induction us with
 |nil=>rfl
 |cons u us ih=>
  rw[yv]
  by_cases e:u=[]
  .rw[zC (by simp[e]),ih,e];rfl
  rw[zE (by simp[e]),wL,wL,ih]
noncomputable def Df(n:Nat)(E:List (Nat×Nat))(F:List Nat):List (List Nat):=(BP n E F).filter fun u=>decide (u≠[])
noncomputable def Hq(S:Rat->Bool)(n:Nat)(L:List Lp)(F:List Nat):Nat->Rat:=Lt S L (Df n (Ae L) F) fun p=>if p∈F then 1 else 0
theorem Caps.inN{n:Nat}{L:List Lp}(hL:Caps n L):InN n (Ae L):=fun y hy=>by
 obtain⟨x,hx,rfl⟩:=List.mem_map.1 hy;exact⟨(hL.lt x hx).2,(hL.lt x hx).1⟩
theorem S2{n:Nat}{S:Rat->Bool}{L:List Lp}{F:List Nat}(hL:Caps n L)(hS:∀x,Fit (6000^34) x->S x=true)(a:(BP n (Ae L) F).flatten.length<=16):
 ∃D,D<=6000^16/\Inv L F (BP n (Ae L) F).flatten (Hq S n L F) D:=by
 have hr:=(Fw (F:=F) hL.inN).drop_nil;obtain⟨D,hD⟩:=Inv.run hL hS _ [] _ 1 (Inv.start L F) hr (by rw[DS];simpa using a);rw[DS,yW]at hD;exact⟨D,zV hD.dle (zW (by omega) a),hD⟩
theorem S8{n:Nat}{S:Rat->Bool}{L:List Lp}{F:List Nat}(hL:Caps n L)(hS:∀x,Fit (6000^34) x->S x=true)(a:(BP n (Ae L) F).flatten.length<=16):Eff n L F (Hq S n L F):=by
 obtain⟨D,_,h⟩:=S2 hL hS a;exact h.eff hL fun p hp hr=>Sz hL.inN hp hr
def Ai(l:List Lk):List Lp:=l.map fun x=>(x.1.toNat,x.2.1.toNat,vq (lkP x))
theorem Hb{x:Rw}(h:unitsN x≠0):As x.1 x.2.1 x.2.2=true/\x.1=false/\val x.2.1<=val x.2.2/\6000%val x.2.2=0/\unitsN x=val x.2.1*(6000/val x.2.2):=by
 unfold unitsN at h ⊢
 split at h
 .exact absurd rfl h
 rename_i h1
 split at h
 .exact absurd rfl h
 rename_i h2;rw[zC h1,zC h2];refine⟨?_,?_,by omega,by omega,rfl⟩
 .cases c:As x.1 x.2.1 x.2.2 with
  |true=>rfl
  |false=>exact absurd (.inl c) h1
 cases c:x.1 with
 |false=>rfl
 |true=>exact absurd (.inr (.inl c)) h1
theorem Qg{g:Bool}{n d:ByteArray}(h:As g n d=true):val d≠0:=by
 obtain⟨q,_,_,_,rfl⟩:=KY h
 show val (num q.den)≠0
 rw[Bu];exact q.den_nz
theorem GE{x:Rw}(h:unitsN x≠0):6000*vq x=(unitsN x:Rat):=by
 obtain⟨h1,h2,h3,h4,h5⟩:=Hb h;have hd:=Qg h1;obtain⟨g,n,d⟩:=x;simp only at h1 h2 h3 h4 h5 hd;subst h2;rw[h5];unfold vq
 show 6000*mkRat (sg false (val n)) (val d)=_
 have hk:val d*(6000/val d)=6000:=by have:=Nat.div_add_mod 6000 (val d);omega
 have hdr:(val d:Rat)≠0:=by
  intro e;exact hd (Rat.natCast_inj.1 (show ((val d:Nat):Rat)=((0:Nat):Rat) from e))
 have a:(val d:Rat)*((6000/val d:Nat):Rat)=6000:=by
  rw[<-xI,hk];rfl
 rw[vf];have e1:((sg false (val n):Int):Rat)=(val n:Rat):=by unfold sg;simp[Rat.intCast_natCast]
 rw[e1,xI];generalize (val d:Rat)=D at hdr a;generalize ((6000/val d:Nat):Rat)=K at a;generalize (val n:Rat)=N;rw[<-a,xu];have:=yy D hdr;grind
theorem Qh{x:Rw}(h:unitsN x≠0):0<vq x:=by
 have h1:=GE h;have h2:(0:Rat)<(unitsN x:Rat):=Rat.natCast_pos.2 (by omega);grind
theorem Ns{p:Nat}:∀{l:List Lk},(∀x,x∈l->0<=x.1/\unitsN (lkP x)≠0)->6000*A6 p (fun _=>1) (Ai l)=(sumU l (p:Int):Rat):=by
 intro l
 induction l with
 |nil=>intro _;show 6000*0=((0:Nat):Rat);grind
 |cons x l ih=>
  intro h;obtain⟨h0,h1⟩:=h x yG;have h2:=ih fun y hy=>h y (zt _ hy);have h3:=GE h1;unfold Ai;rw[wW]
  show 6000*((if x.1.toNat=p then vq (lkP x)*1 else 0)+A6 p (fun _=>1) (Ai l))=_
  unfold sumU at h2 ⊢;rw[yv]
  by_cases e:x.1=(p:Int)
  .rw[zE (by omega),zE (by simpa using e),wW,List.sum_cons,Rat.natCast_add,<-h2,<-h3];grind
  rw[zC (by omega),zC (by simpa using e),<-h2];grind
theorem Fx{s:SR}(h:Am s=true){x:Lk}(hx:x∈s.cap):(0<=x.1/\x.1<s.ps.length)/\(0<=x.2.1/\x.2.1<s.ps.length)/\unitsN (lkP x)≠0:=by
 unfold Am at h;simp only[yI,yN]at h;obtain⟨i,hi,rfl⟩:=zl hx;obtain⟨⟨a1,a2,_,a4⟩,_,_⟩:=Dq h.2.2.1 hi;exact⟨a1,a2,a4⟩
theorem BW{s:SR}(h:Am s=true):Caps s.ps.length (Ai s.cap):=by
 refine⟨fun y hy=>?_,fun y hy=>?_,fun y hy=>?_,fun p=>?_⟩
 .obtain⟨x,hx,rfl⟩:=List.mem_map.1 hy;obtain⟨h1,h2,_⟩:=Fx h hx;exact⟨by show x.1.toNat<_;omega,by show x.2.1.toNat<_;omega⟩
 .obtain⟨x,hx,rfl⟩:=List.mem_map.1 hy;exact⟨(unitsN (lkP x):Nat),by show 6000*vq (lkP x)=_;rw[GE (Fx h hx).2.2,wN]⟩
 .obtain⟨x,hx,rfl⟩:=List.mem_map.1 hy;exact Qh (Fx h hx).2.2
 have h1:=Ns (p:=p) (l:=s.cap) fun x hx=>⟨(Fx h hx).1.1,(Fx h hx).2.2⟩
 have hg:Dc s.ps.length s.cap=true:=by
  unfold Am at h;simp only[yI]at h;exact h.2.2.1
 have h2:=Kb (n:=s.ps.length) (l:=s.cap) s.cap.length (zB _) (fun i hi _=>Dq hg hi) (p:Int);rw[yJ]at h2;have h3:(sumU s.cap (p:Int):Rat)<=((6000:Nat):Rat):=Rat.natCast_le_natCast.2 h2;rw[<-h1]at h3;have h4:((6000:Nat):Rat)=6000:=rfl;rw[h4]at h3;grind
theorem BO(s:SR):Ae (Ai s.cap)=Ad s:=by
 unfold Ae Ai Ad;rw[xC];rfl
theorem Ur{x:Rat}{d:Nat}(hd:0<d)(h:IsI ((d:Rat)*x)):x.den∣d:=by
 obtain⟨z,hz⟩:=h
 have hdr:(d:Rat)≠0:=by
  have:(0:Rat)<(d:Rat):=Rat.natCast_pos.2 hd;grind
 have e:x=mkRat z d:=by
  rw[vf,<-hz,xu];have:=yy _ hdr;grind
 rw[e,Rat.den_mkRat,zC (by omega)];exact Nat.div_dvd_of_dvd (Nat.gcd_dvd_left _ _)
theorem V7{x:Rat}(h1:-1<=x)(h2:x<=1):x.num.natAbs<=x.den:=by
 have a:=(Rat.le_iff _ _).1 h1;have b:=(Rat.le_iff _ _).1 h2;have e1:(-1:Rat).num=-1:=rfl;have e2:(-1:Rat).den=1:=rfl;have e3:(1:Rat).num=1:=rfl;have e4:(1:Rat).den=1:=rfl;rw[e1,e2]at a;rw[e3,e4]at b;omega
theorem Lx:6000^34<L1:=by
 unfold L1;rw[ES];decide
theorem CB{x:Rat}{B:Nat}(h:Fit B x)(hB:B<L1):ShortQ x:=by
 obtain⟨a,b,d,d1,d2,d3⟩:=h;have h1:=Nat.le_of_dvd d1 (Ur d1 d3);have h2:=V7 a b;exact⟨by omega,by omega⟩
theorem Nu:∀x,Fit (6000^34) x->SQ x=true:=fun _ h=>zH (CB h Lx)
end Sh
end
section
open Go.RowKit Go.Shelf
namespace Sh
open Nt Ci
theorem Nv(A B:Option Addr)(n m ca cb:Nat)(h:n≠m)(w:World):
 Calls prog 15 #[.slice A n ca,.slice B m cb] w fun e w'=>e=.returned (.bool false)/\Below w.heap.size w w':=by
 have h1:((n:Int)==(m:Int))=false:=by rw[zJ];omega
 have h2:¬((n:Int)=(m:Int)):=by omega
 replace h2:=zh h2;go_enter func15,ntmps15;go_wp2;go_ret;exact⟨rfl,zI _ _⟩
theorem Ly(A B:Option Addr)(ca cb:Nat)(l m:List Raw)(h:l.length=m.length)(w:World)(hl:InRow w A l)(hm:InRow w B m)(ad:l.length<9223372036854775807):
 Calls prog 15 #[.slice A l.length ca,.slice B m.length cb] w fun e w'=>e=.returned (.bool (decide (l=m)))/\Below w.heap.size w w':=by
 rw[<-h];go_enter func15,ntmps15;go_wp2;replace hl:=zh hl;replace hm:=zh hm
 go_loopw [5] (fun i wr=>∃y q:Nat,y<=l.length/\i=.int .i64 (y:Int)/\wr=w.drewN q/\Hid (l.take y=m.take y)) (fun i _=>l.length-(intOf i).toNat)
 case atStart=>exact⟨0,0,zO _,rfl,rfl,rfl⟩
 case round=>
  obtain⟨y,q,hy,rfl,rfl,hI⟩:=hrel
  by_cases hlt:y<l.length
  .obtain ⟨b,o,rfl,hb,hc⟩:=hl.o (by omega);obtain⟨b2,o2,rfl,ae,a⟩:=hm.o (by omega);obtain⟨e1,e2,e3⟩:=hc y hlt;obtain⟨f1,f2,f3⟩:=a y (by omega);have aa:∃x,x=l[y]:=⟨_,rfl⟩;have ab:∃z,z=m[y]'(by omega):=⟨_,rfl⟩;obtain⟨⟨g1,n1,d1⟩,hx⟩:=aa;obtain⟨⟨g2,n2,d2⟩,hz⟩:=ab;rw[<-hx]at e1 e2 e3;rw[<-hz]at f1 f2 f3;replace e1:(w.drewN q).cell? ⟨b,o+y*3,none⟩=some (.bool g1):=e1;replace e2:(w.drewN q).cell? ⟨b,o+y*3+1,none⟩=some (.string n1):=e2;replace e3:(w.drewN q).cell? ⟨b,o+y*3+2,none⟩=some (.string d1):=e3;replace f1:(w.drewN q).cell? ⟨b2,o2+y*3,none⟩=some (.bool g2):=f1;replace f2:(w.drewN q).cell? ⟨b2,o2+y*3+1,none⟩=some (.string n2):=f2;replace f3:(w.drewN q).cell? ⟨b2,o2+y*3+2,none⟩=some (.string d2):=f3;have s1:(0:Int)<=(y:Int):=by omega
   have s2:(y:Int)<(l.length:Int):=by omega
   replace hx:=zh hx;replace hz:=zh hz;clear hc a;generalize d:w.drewN q=wq at *
   by_cases q1:g1=g2<;>by_cases q2:n1.toList=n2.toList<;>by_cases q3:d1.toList=d2.toList
   all_goals (
    go_wp2_with fail
    go_quiet (fail)
    go_wp2)
   .obtain rfl:=q1;obtain rfl:n1=n2:=OJ q2;obtain rfl:d1=d2:=OJ q3;refine⟨⟨y+1,q+nq,by omega,by go_num,by rw[<-d,yr],?_⟩,by simp only[intOf];omega⟩
    show l.take (y+1)=m.take (y+1)
    rw[zS hlt,zS (by omega),hI.o,<-hx.o,<-hz.o]
   all_goals (
    have s:Hid (l≠m):=fun e=>by
     have e3:(g1,n1,d1)=(g2,n2,d2):=by rw[hx.o,hz.o];exact List.getElem_of_eq e _
     simp only[Prod.mk.injEq]at e3;obtain⟨rfl,rfl,rfl⟩:=e3;simp at q1 q2 q3
    go_ret;exact⟨by rw[zD s.o];rfl,by rw[<-d];exact Bn (Bn (zI _ w) q) nq⟩)
  obtain rfl:y=l.length:=by omega
  have hd:Hid (l=m):=by
   have:=hI.o
   rwa [yK (zB _),yK (by omega)]at this
  go_wp2;go_ret;exact⟨by rw[zH hd.o];rfl,Bn (zI _ w) q⟩
theorem FS(A B:Option Addr)(ca cb:Nat)(l m:List Raw)(w:World)(hl:InRow w A l)(hm:InRow w B m)(a:l.length<9223372036854775807):
 Calls prog 15 #[.slice A l.length ca,.slice B m.length cb] w fun e w'=>e=.returned (.bool (decide (l=m)))/\Below w.heap.size w w':=by
 by_cases h:l.length=m.length
 .exact Ly A B ca cb l m h w hl hm a
 rw[zD (fun e=>h (by rw[e]))];exact Nv A B _ _ ca cb h w
theorem En(m n:Int)(w:World)(hE:Env w)(af:-9223372036854775808<=m)(ag:m<=9223372036854775807)(ah:-9223372036854775808<=n)(ai:n<=9223372036854775807)(h0:n≠0):
 Calls prog 37 #[.int .i64 m,.int .i64 n] w fun e w'=>e=.returned (qv (ofQ m n))/\Below w.heap.size w w':=by
 obtain⟨g,x,d,q0⟩:=Gh (ofQ m n);have s:Hid (Below w.heap.size w (w.alloc (.cells #[.bool false,.string ⟨#[]⟩,.string ⟨#[]⟩] 34))):=(zI _ w).alloc (zB _) _;have ab:Hid (Bk (w.alloc (.cells #[.bool false,.string ⟨#[]⟩,.string ⟨#[]⟩] 34)) w.heap.size 34 [.bool false,.string ⟨#[]⟩,.string ⟨#[]⟩]):=Bk.new w _ _
 have ko:Hid (Calls prog 81 #[.int .i64 m,.int .i64 n] (w.alloc (.cells #[.bool false,.string ⟨#[]⟩,.string ⟨#[]⟩] 34)) fun e w'=>e=.returned (.tuple #[.agg #[.bool g,.string x,.string d],.int .i64 0])/\Below (w.alloc (.cells #[.bool false,.string ⟨#[]⟩,.string ⟨#[]⟩] 34)).heap.size (w.alloc (.cells #[.bool false,.string ⟨#[]⟩,.string ⟨#[]⟩] 34)) w'):=by
  have h:=Jm m n af ag ah ai h0 _ (hE.below s.o);rw[q0]at h;exact h
 rw[q0];clear hE;go_enter func37,ntmps37
 go_wp2_with fail
 refine ko.o.q fun w2 hb=>?_;have ad:=s.t hb;have a:=zh (ab.o.below hb);clear hb s ab ko;have r0:=a.o.c0;have r1:=a.o.c1;have r2:=a.o.c2;have f0:=a.o.frozen 0;have f1:=a.o.frozen 1;have f2:=a.o.frozen 2;have r9:=a.o.lt
 have ae:Hid (Below w.heap.size w ((((w2.setCell ⟨w.heap.size,0,none⟩ (.bool g)).setCell ⟨w.heap.size,1,none⟩ (.string x)).setCell ⟨w.heap.size,2,none⟩ (.string d)).alloc (.cells #[.bool g,.string x,.string d] 34))):=by
  have h:=((ad.o.setCell (p:=⟨w.heap.size,0,none⟩) (zB _) (.bool g)).setCell (p:=⟨w.heap.size,1,none⟩) (zB _) (.string x)).setCell (p:=⟨w.heap.size,2,none⟩) (zB _) (.string d);exact h.alloc h.size _
 have aa:Hid (Bk ((((w2.setCell ⟨w.heap.size,0,none⟩ (.bool g)).setCell ⟨w.heap.size,1,none⟩ (.string x)).setCell ⟨w.heap.size,2,none⟩ (.string d)).alloc (.cells #[.bool g,.string x,.string d] 34)) w.heap.size 34 [.bool g,.string x,.string d]):=(((a.o.set 0 (.bool g)).set 1 (.string x)).set 2 (.string d)).alloc _;go_wp2
 (try simp only[Exit.inBlock,Exit.then])
 have s0:=aa.o.c0;have s1:=aa.o.c1;have s2:=aa.o.c2;have s9:=aa.o.lt;refine zX (v:=.agg #[.bool g,.string x,.string d]) (by simp[results,results37,go_sem,s0,s1,s2]) rfl ⟨rfl,ae.o⟩
theorem Gm{P:Program}{id:Nat}{Q:Exit->Act->World->Prop}{a:Act}{w:World}{l:List Oper}(hm:P.follows .mixedOrders=true)(hB:Region.lexB .any l.toArray=true)
 (h:wpQuiet P l.toArray (fun W=>Below w.heap.size w W) (fun a'=>∀w',Below w.heap.size w w'->Q .normal a' w') l a):(Code.region id l.toArray true).wp P Q a w :=
 wp_region_quiet (C:=fun W=>Below w.heap.size w W) hm hB ((zI _ w).drew) (by simpa using h)
theorem W8(w:World):(zeroValue 34).run prog w=.ok (.agg #[.bool false,.string ⟨#[]⟩,.string ⟨#[]⟩]) w:=by kernel_rfl
def MapV(w:World)(mb n:Nat)(val:Nat->Rat):Prop :=
 ∃c f,MapK prog 3 κi w mb c f/\c<=100000/\∀p:Nat,p<n->match f (p:Int) with|some v=>v=qv (val p)|none=>val p=0
theorem MapV.below{w w':World}{mb n:Nat}{val:Nat->Rat}(h:MapV w mb n val)(hb:Below w.heap.size w w'):MapV w' mb n val:=by
 obtain⟨c,f,h1,h2,h3⟩:=h;exact⟨c,f,h1.below hb,h2,h3⟩
theorem MapV.lt{w:World}{mb n:Nat}{val:Nat->Rat}(h:MapV w mb n val):mb<w.heap.size:=by
 obtain⟨c,f,h1,_⟩:=h;exact h1.lt
structure VM(w:World)(vb mb n:Nat)(val:Nat->Rat):Prop where
 x:Bk w vb 73 [.map (some mb)]
 m:MapV w mb n val
theorem VM.below{w w':World}{vb mb n:Nat}{val:Nat->Rat}(h:VM w vb mb n val)(hb:Below w.heap.size w w'):VM w' vb mb n val:=⟨h.x.below hb,h.m.below hb⟩
theorem Jz(n:Nat)(val:Nat->Rat)(vb mb p:Nat)(hp:p<n)(hn:n<=1000)(w:World)(hE:Env w)(hV:VM w vb mb n val):
 Calls prog 43 #[.int .i64 (p:Int),.pointer (some ⟨vb,0,none⟩)] w fun e w'=>e=.returned (qv (val p))/\Below w.heap.size w w':=by
 have af:Hid (Below w.heap.size w (w.alloc (.cells #[.bool false,.string ⟨#[]⟩,.string ⟨#[]⟩] 34))):=((zI _ w).alloc (zB _) _);have ai:Hid (Bk (w.alloc (.cells #[.bool false,.string ⟨#[]⟩,.string ⟨#[]⟩] 34)) (w.heap.size) 34 [.bool false,.string ⟨#[]⟩,.string ⟨#[]⟩]):=by have h:=Bk.new w 34 [.bool false,.string ⟨#[]⟩,.string ⟨#[]⟩]; exact h
 have al:=zh (hV.below af.o);obtain⟨c,f,hM,_,aj⟩:=al.o.m;have s:=hM.look_ok FO underlying73 (W8 _) (EI underlying3 (a:=(p:Int)) (by omega) (by omega));have hx:=al.o.x;have x0:=hx.c0;have x9:=hx.lt;have aa:=aj p hp;replace hE:=zh hE;clear aj hM al hV hx
 cases ag:f (p:Int) with
 |some u=>
  rw[ag]at s aa;replace aa:u=qv (val p):=aa;obtain⟨g,n0,d,hq⟩:=Gh (val p);rw[hq]at aa;subst aa;replace s:(Instr.lookup 73 (.map (some mb)) (.int .i64 (p:Int)) true).run prog (w.alloc (.cells #[.bool false,.string ⟨#[]⟩,.string ⟨#[]⟩] 34))=.ok (.tuple #[.agg #[.bool g,.string n0,.string d],.bool true]) (w.alloc (.cells #[.bool false,.string ⟨#[]⟩,.string ⟨#[]⟩] 34)):=s;replace ag:=zh ag;have ah:Hid (Below w.heap.size w ((w.alloc (.cells #[.bool false,.string ⟨#[]⟩,.string ⟨#[]⟩] 34)).alloc (.cells #[.bool g,.string n0,.string d] 34))):=af.o.alloc af.o.size _;have ab:=zh (ai.o.alloc (.cells #[.bool g,.string n0,.string d] 34));clear af ai;have an:Hid (Bk ((w.alloc (.cells #[.bool false,.string ⟨#[]⟩,.string ⟨#[]⟩] 34)).alloc (.cells #[.bool g,.string n0,.string d] 34)) (w.alloc (.cells #[.bool false,.string ⟨#[]⟩,.string ⟨#[]⟩] 34)).heap.size 34 [.bool g,.string n0,.string d]):=Bk.new _ _ _;have r0:=ab.o.c0;have r1:=ab.o.c1;have r2:=ab.o.c2;have r9:=ab.o.lt;have ao:=ab.o.frozen 0;have aq:=ab.o.frozen 1;have ar:=ab.o.frozen 2;go_enter func43,ntmps43;have ak:Hid (Below w.heap.size w ((w.alloc (.cells #[.bool g,.string n0,.string d] 34)).alloc (.cells #[.bool g,.string n0,.string d] 34))):=((zI _ w).alloc (zB _) _).alloc (by simp) _;have ad:Hid (Bk ((w.alloc (.cells #[.bool g,.string n0,.string d] 34)).alloc (.cells #[.bool g,.string n0,.string d] 34)) w.heap.size 34 [.bool g,.string n0,.string d]):=(Bk.new w _ _).alloc _;go_wp2
  (try simp only[Exit.inBlock,Exit.then])
  have s0:=ad.o.c0;have s1:=ad.o.c1;have s2:=ad.o.c2;have s9:=ad.o.lt;refine zX (v:=.agg #[.bool g,.string n0,.string d]) (by simp[results,results43,go_sem,s0,s1,s2]) rfl ⟨by rw[hq],ak.o⟩
 |none=>
  rw[ag]at s aa;replace aa:val p=0:=aa;obtain⟨g,n0,d,hq⟩:=Gh (0:Rat);rw[aa];replace s:(Instr.lookup 73 (.map (some mb)) (.int .i64 (p:Int)) true).run prog (w.alloc (.cells #[.bool false,.string ⟨#[]⟩,.string ⟨#[]⟩] 34))=.ok (.tuple #[.agg #[.bool false,.string ⟨#[]⟩,.string ⟨#[]⟩],.bool false]) (w.alloc (.cells #[.bool false,.string ⟨#[]⟩,.string ⟨#[]⟩] 34)):=s;replace ag:=zh ag;replace aa:=zh aa;have ah:Hid (Below w.heap.size w ((w.alloc (.cells #[.bool false,.string ⟨#[]⟩,.string ⟨#[]⟩] 34)).alloc (.cells #[.bool false,.string ⟨#[]⟩,.string ⟨#[]⟩] 34))):=af.o.alloc af.o.size _;have ab:=zh (ai.o.alloc (.cells #[.bool false,.string ⟨#[]⟩,.string ⟨#[]⟩] 34));clear af ai;have an:Hid (Bk ((w.alloc (.cells #[.bool false,.string ⟨#[]⟩,.string ⟨#[]⟩] 34)).alloc (.cells #[.bool false,.string ⟨#[]⟩,.string ⟨#[]⟩] 34)) (w.alloc (.cells #[.bool false,.string ⟨#[]⟩,.string ⟨#[]⟩] 34)).heap.size 34 [.bool false,.string ⟨#[]⟩,.string ⟨#[]⟩]):=Bk.new _ _ _;have kn:Hid (Calls prog 42 #[.int .i64 0] ((w.alloc (.cells #[.bool false,.string ⟨#[]⟩,.string ⟨#[]⟩] 34)).alloc (.cells #[.bool false,.string ⟨#[]⟩,.string ⟨#[]⟩] 34)) fun e w'=>e=.returned (.agg #[.bool g,.string n0,.string d])/\Below (((w.alloc (.cells #[.bool false,.string ⟨#[]⟩,.string ⟨#[]⟩] 34)).alloc (.cells #[.bool false,.string ⟨#[]⟩,.string ⟨#[]⟩] 34))).heap.size ((w.alloc (.cells #[.bool false,.string ⟨#[]⟩,.string ⟨#[]⟩] 34)).alloc (.cells #[.bool false,.string ⟨#[]⟩,.string ⟨#[]⟩] 34)) w'):=by have h:=Jq 0 (by omega) ((w.alloc (.cells #[.bool false,.string ⟨#[]⟩,.string ⟨#[]⟩] 34)).alloc (.cells #[.bool false,.string ⟨#[]⟩,.string ⟨#[]⟩] 34)) (hE.o.below ah.o);rw[show ((0:Int):Rat)=0 from rfl,hq]at h;exact h
  go_enter func43,ntmps43
  go_wp2_with fail
  refine kn.o.q fun w4 hb=>?_;have am:=ah.t hb;have ae:=zh (ab.o.below hb);clear hb ah ab kn;have r0:=ae.o.c0;have r1:=ae.o.c1;have r2:=ae.o.c2;have r9:=ae.o.lt;have ao:=ae.o.frozen 0;have aq:=ae.o.frozen 1;have ar:=ae.o.frozen 2;have ak:Hid (Below w.heap.size w (((w4.setCell ⟨w.heap.size,0,none⟩ (.bool g)).setCell ⟨w.heap.size,1,none⟩ (.string n0)).setCell ⟨w.heap.size,2,none⟩ (.string d))):=(((am.o.setCell (p:=⟨w.heap.size,0,none⟩) (zB _) _).setCell (p:=⟨w.heap.size,1,none⟩) (zB _) _).setCell (p:=⟨w.heap.size,2,none⟩) (zB _) _);have ad:Hid (Bk (((w4.setCell ⟨w.heap.size,0,none⟩ (.bool g)).setCell ⟨w.heap.size,1,none⟩ (.string n0)).setCell ⟨w.heap.size,2,none⟩ (.string d)) (w.heap.size) 34 [.bool g,.string n0,.string d]):=(Bk.set (Bk.set (Bk.set ae.o 0 (.bool g)) 1 (.string n0)) 2 (.string d));go_wp2
  (try simp only[Exit.inBlock,Exit.then])
  have s0:=ad.o.c0;have s1:=ad.o.c1;have s2:=ad.o.c2;have s9:=ad.o.lt;refine zX (v:=.agg #[.bool g,.string n0,.string d]) (by simp[results,results43,go_sem,s0,s1,s2]) rfl ⟨by rw[hq],ak.o⟩
theorem H0{a b:Int}(h:a=b):Ending.returned (.int .i64 a)=.returned (.int .i64 b):=by rw[h]
def Eo(l:List Int)(x:Int):Int:=if x∈l then (l.idxOf x:Int) else -1
theorem S9{l:List Int}{x:Int}{k:Nat}(hk:k<l.length)(h:∀j (hj:j<l.length),j<k->l[j]≠x)(e:l[k]=x):Eo l x=(k:Int):=by
 have hm:x∈l:=by rw[<-e];exact zQ hk
 unfold Eo;rw[zE hm];have h1:l.idxOf x<l.length:=List.idxOf_lt_length_of_mem hm;have h2:l[l.idxOf x]=x:=List.getElem_idxOf h1
 by_cases c:l.idxOf x<k
 .exact absurd h2 (h _ h1 c)
 by_cases c2:k<l.idxOf x
 .exact absurd e (by
   have:=List.not_of_lt_findIdx (p:=fun y=>y==x) (xs:=l) (i:=k) (by simpa [List.idxOf] using c2)
   simpa using this)
 omega
theorem SA{l:List Int}{x:Int}(h:∀j (hj:j<l.length),l[j]≠x):Eo l x=-1:=by
 unfold Eo;rw[zC];intro hm;obtain⟨j,hj,e⟩:=zl hm;exact h j hj e
theorem V8{l:List Int}{x:Int}:decide (0<=Eo l x)=decide (x∈l):=by
 unfold Eo
 by_cases h:x∈l
 .rw[zE h,zH h,zH (by omega)]
 rw[zC h,zD h];rfl
theorem Qi(A:Option Addr)(ca:Nat)(l:List Int)(x:Int)(w:World)(hA:InInt w A l)(hl:l.length<=140737488355328):
 Calls prog 74 #[.slice A l.length ca,.int .i64 x] w fun e w'=>e=.returned (.int .i64 (Eo l x))/\w'=w:=by
 replace hA:=zh hA;have d:=zh (fun(k:Nat) (hk:k<l.length) h e=>S9 (l:=l) (x:=x) hk h e);have s:=zh (fun h=>SA (l:=l) (x:=x) h);go_enter func74,ntmps74;go_wp2
 go_loopw [8] (fun ix wr=>∃(k:Nat),k<=l.length/\ix=.int .i64 (k:Int)/\wr=w/\Hid (∀j (hj:j<l.length),j<k->l[j]≠x)) (fun ix _=>l.length-(intOf ix).toNat)
 case atStart=>exact⟨0,zO _,rfl,rfl,fun j _ h=>absurd h (zi _)⟩
 case round=>
  obtain⟨k,hk,rfl,rfl,hN⟩:=hrel
  by_cases hlt:k<l.length
  .obtain ⟨b,o,rfl,ab,hc⟩:=hA.o (by omega);have e1:=hc k hlt;have hy:=zh (d.o k hlt hN.o)
   have hn:Hid (l[k]≠x->∀j (hj:j<l.length),j<k+1->l[j]≠x):=fun h j hj h2=>by
    by_cases c:j=k
    .subst c;exact h
    exact hN.o j hj (by omega)
   obtain⟨y,a⟩:∃y,y=l[k]:=⟨_,rfl⟩;rw[<-a]at e1 hy hn;replace a:=zh a;have j0:(0:Int)<=(k:Int):=by omega
   have j1:(k:Int)<(l.length:Int):=by omega
   clear hc hN
   by_cases hxy:x=y
   .have m1:(x==y)=true:=by rw[yL];exact hxy
    have hr:=zh (hy.o hxy.symm);replace hxy:=zh hxy;clear hn hy;go_wp2;go_ret;exact⟨H0 hr.o.symm,rfl⟩
   have m1:(x==y)=false:=by rw[zJ];exact hxy
   have aa:=zh (hn.o fun c=>hxy c.symm);replace hxy:=zh hxy;clear hn hy;go_wp2;exact⟨⟨k+1,by omega,by go_num,by first|rfl|trivial,aa⟩,by simp only[intOf];omega⟩
  obtain rfl:k=l.length:=by omega
  have hr:Hid (Eo l x=-1):=s.o fun j hj=>hN.o j hj hj;go_wp2;go_ret;exact⟨H0 hr.o.symm,rfl⟩
end Sh
end
section
open Go.RowKit Go.Shelf
namespace Ci
def Bz(l:List Nat):List Value:=l.map fun(q:Nat)=>.int .i64 (q:Int)
theorem DE(l:List Nat)(q:Nat):Bz (l++[q])=Bz l++[.int .i64 (q:Int)]:=by simp[Bz]
def SB(u v:Value):Prop:=∀b,u.ownBlock=some b->v.ownBlock≠some b
structure Gr(W:World)(B R n:Nat)(v:Nat->Value)(adj:Nat->List Nat):Prop where
 lt:R<W.heap.size
 hd:∀i,i<n->W.cell? ⟨R,i,none⟩=some (v i)
 fr:∀i,W.frozen? ⟨R,i,none⟩=false
 rows:∀i,i<n->W.ownsRow B 3 1 (v i) (adj i).length (Bz (adj i))
 apart:∀i j,i<n->j<n->i≠j->SB (v i) (v j)
 ne:∀i,i<n->(v i).ownBlock≠some R
 lowR:B<=R
section
variable {W W':World} {B R n i:Nat} {v:Nat->Value} {adj:Nat->List Nat}
theorem AK{base:Nat}{e:TypeId}{size m:Nat}{u:Value}{xs:List Value}(h:W.ownsRow base e size u m xs)(hb:Below W.heap.size W W'):W'.ownsRow base e size u m xs :=
 h.kept (row:=none) ⟨hb.os,hb.tape,hb.output,hb.size,fun k hk _=>hb.block k hk⟩ (by
  cases hu:u.ownBlock with
  |none=>exact .inl rfl
  |some b=>exact .inr (by simp))
theorem Gr.below(h:Gr W B R n v adj)(hb:Below W.heap.size W W'):Gr W' B R n v adj :=
 ⟨zL h.lt hb.size,fun i hi=>(hb.cell (p:=⟨R,i,none⟩) h.lt).trans (h.hd i hi),fun i=>(hb.frozen (p:=⟨R,i,none⟩) h.lt).trans (h.fr i),fun i hi=>AK (h.rows i hi) hb,h.apart,h.ne,h.lowR⟩
theorem Gr.alloc(h:Gr W B R n v adj)(o:Obj):Gr (W.alloc o) B R n v adj:=h.below ((zI _ W).alloc (zB _) o)
theorem Gr.drew(h:Gr W B R n v adj):Gr W.drew B R n v adj:=h.below (zI _ W).drew
theorem Gr.mono{B':Nat}(h:Gr W B R n v adj)(hb:B'<=B):Gr W B' R n v adj :=
 ⟨h.lt,h.hd,h.fr,fun i hi=>by
   obtain⟨h1,h2⟩:=h.rows i hi;refine⟨h1,?_⟩
   rcases h2 with h2|⟨g,cap,cur,hv,hg,hh⟩
   .exact .inl h2
   exact .inr ⟨g,cap,cur,hv,zV hb hg,hh⟩,h.apart,h.ne,zV hb h.lowR⟩
theorem DF{base:Nat}{e:TypeId}{u:Value}{l:List Nat}(h:W.ownsRow base e 1 u l.length (Bz l)):
 (u=.slice none 0 0/\l=[])\/∃g cap,u=.slice (some ⟨g,0,none⟩) l.length cap/\base<=g/\g<W.heap.size/\(∀j,W.frozen? ⟨g,j,none⟩=false)/\∀j (hj:j<l.length),W.cell? ⟨g,j,none⟩=some (.int .i64 (l[j]:Int)):=by
 rcases h.2 with⟨rfl,h0⟩|⟨g,cap,cur,rfl,hb,hg,_⟩
 .exact .inl ⟨rfl,List.length_eq_zero_iff.1 h0⟩
 refine .inr ⟨g,cap,rfl,hb,(Array.getElem?_eq_some_iff.1 hg).1,fun j=>by simp[World.frozen?,hg],fun j hj=>?_⟩;have hc:=h.cells (g:=g) (by simp[Value.ownBlock]) j (.int .i64 (l[j]:Int)) (by simp[Bz,hj]);have a:∀o,(⟨g,0,none⟩:Addr).add o=⟨g,o,none⟩:=fun o=>by unfold Addr.add;split<;>simp_all
 rwa [a]at hc
theorem Gr.start(w:World){B:Nat}(hB:B<=w.heap.size)(n:Nat)(t:TypeId):Gr (w.alloc (.cells (madeCells #[.slice none 0 0] n) t)) B w.heap.size n (fun _=>.slice none 0 0) fun _=>[]:=by
 have h:=zo w (.cells (madeCells #[(.slice none 0 0:Value)] n) t);refine⟨by simp,fun x hx=>?_,fun x=>by simp only[World.frozen?,h];simp,fun _ _=>zq _ _ _ _,fun _ _ _ _ _ b hb=>(by cases hb),fun _ _ hb=>(by cases hb),hB⟩;simp only[World.cell?,h];simp[madeCells,hx];rw[xW];rfl
def EJ(adj:Nat->List Nat)(x q:Nat):Nat->List Nat:=fun i=>if i=x then adj i++[q] else adj i
theorem Gr.step(h:Gr W B R n v adj){x q:Nat}(hx:x<n){u:Value}(hg:W.grownBy W' (v x).ownBlock)(ho:W'.ownsRow B 3 1 u ((adj x).length+1) (Bz (adj x)++[.int .i64 (q:Int)]))(hn:u.ownBlock=(v x).ownBlock\/u.ownBlock=some W.heap.size):
 Gr (W'.setCell ⟨R,x,none⟩ u) B R n (fun i=>if i=x then u else v i) (EJ adj x q):=by
 have ae:some R≠(v x).ownBlock:=fun e=>h.ne x hx e.symm;have aa:W'.heap[R]? = W.heap[R]?:=hg.block R h.lt ae;have d:∀i,W'.cell? ⟨R,i,none⟩=W.cell? ⟨R,i,none⟩:=fun i=>zR (a:=⟨R,i,none⟩) aa;have af:∀i,W'.frozen? ⟨R,i,none⟩=W.frozen? ⟨R,i,none⟩:=fun i=>zu (a:=⟨R,i,none⟩) aa
 have ad:u.ownBlock≠some R:=fun e=>by
  rcases hn with hn|hn
  .exact h.ne x hx (by rw[<-hn,e])
  rw[e]at hn;have:=h.lt;simp only[Option.some.injEq]at hn;omega
 have ab:∀a b:Nat,a≠b->(⟨R,a,none⟩:Addr)≠⟨R,b,none⟩:=fun a b e1 e2=>by injection e2 with _ e3;exact e1 e3
 have far:∀{m:Nat} {z:Value} {xs:List Value},W'.ownsRow B 3 1 z m xs->z.ownBlock≠some R->(W'.setCell ⟨R,x,none⟩ u).ownsRow B 3 1 z m xs:=fun h hz=>
  h.kept (row:=some R) ⟨rfl,rfl,rfl,by simp,fun k _ hk=>zg _ _ _ _ (fun e=>hk (by rw[e]))⟩ (.inr hz)
 have s:∀i,i<n->i≠x->SB (v i) u:=fun i hi ag b hb e=>by
  rcases hn with hn|hn
  .exact h.apart i x hi hx ag b hb (by rw[<-hn,e])
  have:=((h.rows i hi).lt b hb).2;rw[e]at hn;simp only[Option.some.injEq]at hn;omega
 refine⟨by have:=hg.size;have:=h.lt;simp;omega,fun i hi=>?_,fun i=>by simpa [af] using h.fr i,fun i hi=>?_,fun i j hi hj e=>?_,fun i hi=>?_,h.lowR⟩
 .by_cases e:i=x
  .subst e;rw[zE rfl];exact zr _ _ _ ((d i).trans (h.hd i hi))
  rw[zC e,zZ _ _ _ _ (by first|exact ab _ _ e|exact ab _ _ fun c=>e c.symm),d];exact h.hd i hi
 .by_cases e:i=x
  .subst e;rw[zE rfl];have:EJ adj i q i=adj i++[q]:=zE rfl;rw[this,zY,DE];exact far ho ad
  rw[zC e];have:EJ adj x q i=adj i:=zC e;rw[this];refine far ((h.rows i hi).kept hg ?_) (h.ne i hi)
  cases hv:(v i).ownBlock with
  |none=>exact .inl rfl
  |some b=>exact .inr fun c=>h.apart i x hi hx e b hv c.symm
 .by_cases e1:i=x
  .have e2:j≠x:=fun c=>e (by rw[e1,c]);rw[zE e1,zC e2];exact fun b hb hc=>s j hj e2 b hc hb
  rw[zC e1]
  by_cases e2:j=x
  .rw[zE e2];exact s i hi e1
  rw[zC e2];exact h.apart i j hi hj e
 by_cases e:i=x
 .rw[zE e];exact ad
 rw[zC e];exact h.ne i hi
theorem Gr.congr{a':Nat->List Nat}(h:Gr W B R n v adj)(e:∀i,i<n->adj i=a' i):Gr W B R n v a' :=
 ⟨h.lt,h.hd,h.fr,fun i hi=>by rw[<-e i hi];exact h.rows i hi,h.apart,h.ne,h.lowR⟩
end
end Ci
end
section
open Go.RowKit Go.Shelf
namespace Ci
section
variable {w w':World} {base:Nat} {e:TypeId} {size:Nat} {u v v':Value} {n:Nat} {xs:List Value}
theorem BZ{P:Program}(t ty e:TypeId)(i:TypeInfo)(z:Value)(size bytes:Nat)(ht:P.underlying t=some (.slice e))(hi:P.info? e=some i)(hz:i.zero=some z)
 (ad:i.size=size)(ah:i.bytes=bytes)(v:Value)(n:Nat)(xs:List Value)(s:w.ownsRow base e size v n xs)
 (a:Addr)(m c:Nat)(news:List Value)(hl:news.length=m*size)(d:∀j u,news[j]? = some u->w.cell? (a.add j)=some u)(h1:∀u∈news,u.oneCell'=true)(hm:0<m)
 (ag:n+m<=maxLen)(h:(n+m)*bytes<=140737488355328){v':Value}{w':World}(hr:(Builtin.append_ #[t,t] ty #[v,.slice (some a) m c]).run P w=.ok v' w'):
 v'.ownBlock=v.ownBlock\/v'.ownBlock=some w.heap.size:=by
 subst ad;subst ah;have af:n+m<=9223372036854775807:=by simp only[maxLen]at ag;omega
 rcases s.2 with⟨rfl,rfl⟩|⟨g,cap,cur,rfl,_,hg,_,aj,ai,_⟩
 .have aa:=run_append_nil (P:=P) w t ty e i z ht hi hz a m c news hl d (by omega) (by omega) (by have hb:=h;simp only[zm]at hb;omega);rw[aa]at hr;simp only[Result.ok.injEq]at hr;rw[<-hr.1];exact .inr rfl
 by_cases hroom:n+m<=cap
 .have ae:n*i.size+news.length<=cur.size:=by rw[hl,ai,<-yE];exact yO _ hroom
  have aa:=run_append_room (P:=P) w t ty e i ht hi g n cap cur hg a m c news hl d h1 hroom ae;rw[aa]at hr;simp only[Result.ok.injEq]at hr;rw[<-hr.1];exact .inl rfl
 have ab:∀j u,xs[j]? = some u->w.cell? ((⟨g,0,none⟩:Addr).add j)=some u:=s.cells (g:=g) rfl;have aa:=run_append_grow (P:=P) w t ty e i z ht hi hz ⟨g,0,none⟩ n cap xs s.1 ab a m c news hl d (by omega) (by omega) (growslice_fits (by omega) h);rw[aa]at hr;simp only[Result.ok.injEq]at hr;rw[<-hr.1];exact .inr rfl
end
theorem wpList_append_new{P:Program}(w:World){ops:Array Oper}{rest:List Oper}{o:Oper}{a:Act}{Q:Exit->Act->World->Prop}(ai:o.guard=none)(s x:Operand)(t:TypeId)
 (ho:o.op=.call { callee:=.builtin .append,args:=#[s,x],argTypes:=#[t,t] })
 (base:Nat)(e:TypeId)(i:TypeInfo)(z:Value)(size bytes:Nat)(ht:P.underlying t=some (.slice e))(hi:P.info? e=some i)(hz:i.zero=some z)
 (ab:i.size=size)(ah:i.bytes=bytes)(ak:z.cells.size=size)(aj:0<size)
 (v:Value)(n:Nat)(xs:List Value)(hs:a.eval s=v)(ae:w.ownsRow base e size v n xs)
 (ad:Addr)(m c:Nat)(news:List Value)(hx:a.eval x=.slice (some ad) m c)(hl:news.length=m*size)(aa:∀j u,news[j]? = some u->w.cell? (ad.add j)=some u)(h1:∀u∈news,u.oneCell'=true)(hm:0<m)
 (ag:n+m<=maxLen)(d:(n+m)*bytes<=140737488355328)(af:base<=w.heap.size)
 (h:∀v' w',w'.ownsRow base e size v' (n+m) (xs++news)->w.grownBy w' v.ownBlock->(v'.ownBlock=v.ownBlock\/v'.ownBlock=some w.heap.size)->wpList P ops Q rest (a.put o.dst v') w'):wpList P ops Q (o::rest) a w :=
 wpList_plain ai fun _ hK=>by
  obtain⟨v',w',hr,h2,h3,_⟩:=wn (P:=P) w base t o.type e i z size bytes ht hi hz ab ah ak aj v n xs ae ad m c news hl aa h1 ag d af;have h5:=BZ (P:=P) t o.type e i z size bytes ht hi hz ab ah v n xs ae ad m c news hl aa h1 hm ag d hr;unfold Oper.wp execOp;simp only[ho,resolve,invoke,builtin,Sem.run_bind,vT,wc,vF,wW,vX,hs,hx,hr];exact hK _ _ (h v' w' h2 h3 h5)
theorem AQ(v:Value)(h:v.oneCell'=true):∀u∈[v],u.oneCell'=true:=fun u hu=>by rw[List.mem_singleton.1 hu];exact h
theorem BA(w:World)(v:Value)(t:TypeId):∀j u,[v][j]? = some u->(w.alloc (.cells #[v] t)).cell? (Addr.add ⟨w.heap.size,0,none⟩ j)=some u:=by
 intro j u hj
 match j,hj with
 |0,hj=>simp at hj;subst hj;simp[Addr.add]
 |j+1,hj=>simp at hj
theorem AE{P:Program}(w:World){o:Oper}{a:Act}{K:Act->World->Prop}{Q:Exit->Act->World->Prop}(s x:Operand)(t:TypeId)
 (ho:o.op=.call { callee:=.builtin .append,args:=#[s,x],argTypes:=#[t,t] })
 (base:Nat)(e:TypeId)(i:TypeInfo)(z:Value)(size bytes:Nat)(ht:P.underlying t=some (.slice e))(hi:P.info? e=some i)(hz:i.zero=some z)
 (ab:i.size=size)(ah:i.bytes=bytes)(aj:z.cells.size=size)(ai:0<size)
 (v:Value)(n:Nat)(xs:List Value)(hs:a.eval s=v)(ae:w.ownsRow base e size v n xs)
 (ad:Addr)(m c:Nat)(news:List Value)(hx:a.eval x=.slice (some ad) m c)(hl:news.length=m*size)(aa:∀j u,news[j]? = some u->w.cell? (ad.add j)=some u)(h1:∀u∈news,u.oneCell'=true)(hm:0<m)
 (ag:n+m<=maxLen)(d:(n+m)*bytes<=140737488355328)(af:base<=w.heap.size)
 (h:∀v' w',w'.ownsRow base e size v' (n+m) (xs++news)->w.grownBy w' v.ownBlock->(v'.ownBlock=v.ownBlock\/v'.ownBlock=some w.heap.size)->K (a.put o.dst v') w'):o.wp P a w K Q:=by
 obtain⟨v',w',hr,h2,h3,_⟩:=wn (P:=P) w base t o.type e i z size bytes ht hi hz ab ah aj ai v n xs ae ad m c news hl aa h1 ag d af;have h5:=BZ (P:=P) t o.type e i z size bytes ht hi hz ab ah v n xs ae ad m c news hl aa h1 hm ag d hr;unfold Oper.wp execOp;simp only[ho,resolve,invoke,builtin,Sem.run_bind,vT,wc,vF,wW,vX,hs,hx,hr];exact h v' w' h2 h3 h5
end Ci
end
end Go.Proofs.YtmfjbpcecpgchaaGreatDoor

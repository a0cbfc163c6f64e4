/- Texts that the proof needs: LinB, LinC, LinD, LinWrap, BndFit, BndIn, BndIter, ShaNum, ShaDet, ShaElim. -/
import Derived.BigRegion
import Derived.RegionTactic
import Derived.Deep.QuietTactic
import Derived.BigQuiet
import Derived.Deep.RegionHeld3
import Derived.IntWalk
import Derived.Deep.OwnRows
import Derived.Deep.Slices
import Derived.WideKeyArgs
import Derived.RangeFuncNested
import Derived.RangeFuncBound
import Derived.RangeFuncCalls
import Derived.RangeFuncLeaves
import Derived.OrdersHeld
import Derived.OrdersIn
import Derived.TacticsIn
import Derived.Deep.RegionHeld
import Derived.Shelf.Abstract
import Derived.Shelf.RegionOpen
import Derived.OwnWalkIn
import Derived.TacticsInMore
import Derived.LoopNIn
import Derived.LoopIn
import Derived.Test.YtilodknkildkbaaGreatDoorKdA
import Derived.Test.YtilodknkildkbaaGreatDoorKdB
import Derived.Test.YtilodknkildkbaaGreatDoorKdC
import Derived.Test.YtilodknkildkbaaGreatDoorKdD
set_option maxHeartbeats 16000000
set_option maxRecDepth 1000000
namespace Go.Proofs.YtilodknkildkbaaGreatDoor
theorem tkdE{P:Program}{md:Region.Mode}{ops:Array Oper}{Q:Exit->Act->World->Prop}{S:World->Prop}{oi:Oper}{v:Value}{fuel:Nat}{listed:Array Bool}{a:Act}{w:World}(i:Nat)(hi:ops[i]?=some oi)(hS:S w)(hy:YieldsIf P ops S oi v a)(h:wpAnyH P md ops Q S fuel (listed.setIfInBounds i true) (a.put oi.dst v) w)(hs:Region.noSelect ops=true:=by kernel_rfl)(hf:Region.free md ops listed i=true:=by kernel_rfl)(hr:(Region.ready md ops listed).contains i=true:=by kernel_rfl)(hQ:∀c a w,Q (.panic c) (a.put oi.dst v) w->Q (.panic c) a w:=by exact fun _ _ _ h=>h):wpAnyH P md ops Q S (fuel+1) listed a w:=wpAnyH_take hi hs hf hr hQ hy hS h
section
open Go.RowKit Go.Shelf
namespace Nt
def Df:Code->List Code
 | .loop c=>c::Df c
 | .seq a b=>Df a++Df b
 | .block _ c=>Df c
 | .scope c=>Df c
 | .cond _ a b=>Df a++Df b
 | _=>[]
noncomputable def VW:Code:=((Tryz.f56.body.map Df).bind fun l=>l[2]?).getD .skip
def SQ (q:Rat):Bool:=decide (ShortQ q)
def IY (n:Nat) (M0:Mx) (w:World) (e:Ending) (w':World):Prop :=
 Below w.heap.size w w'/\((∃M v,A6 SQ n n M0=.ok M/\e=.returned (.tuple #[v,.int .i64 0])/\w'.ownsRow w.heap.size 40 3 v n (AF n fun i=>rq (M i n)))∨(∃er:Int,A6 SQ n n M0=.error er/\e=.returned (.tuple #[.slice none 0 0,.int .i64 er])))
theorem Gs {S:Rat->Bool} {n k:Nat} {M0 M:Mx} {e:Int} (h:A6 S n k M0=.ok M) (hs:Db S n k M=.error e) (hk:k<n):A6 S n n M0=.error e:=by
 have key:∀m,k+1<=m->A6 S n m M0=.error e:=by
  intro m
  induction m with
  | zero=>intro h;omega
  | succ m ih =>
    intro hm;unfold A6
    by_cases e1:m=k
    · rw[e1,h];exact hs
    · rw[ih (by omega)];rfl
 exact key n hk
theorem IZ {P:Nat->Prop} {k n:Nat} (h:¬∀j,k<=j->j<=n->P j):∃t,k<=t/\t<=n/\(∀j,k<=j->j<t->P j)/\¬P t:=by
 have key : ∀m,(∀j,k<=j->j<m->P j)∨∃t,k<=t/\t<m/\(∀j,k<=j->j<t->P j)/\¬P t:=by
  intro m
  induction m with
  | zero=>exact .inl fun j _ h=>absurd h (by omega)
  | succ m ih =>
    rcases ih with ih | ⟨t,a,b,c,d⟩
    · by_cases hm:k<=m
      · by_cases hp:P m
        · refine .inl fun j h1 h2=>?_
          by_cases e:j=m
          · rw[e];exact hp
          · exact ih j h1 (by omega)
        · exact .inr ⟨m,hm,by omega,ih,hp⟩
      · exact .inl fun j h1 h2=>ih j h1 (by omega)
    · exact .inr ⟨t,a,by omega,c,d⟩
 rcases key (n+1) with h1 | ⟨t,a,b,c,d⟩
 · exact absurd (fun j a b=>h1 j a (by omega)) h
 · exact⟨t,a,by omega,c,d⟩
theorem OT {n k:Nat} {M:Mx} (h:H6 SQ n k M=false):∃t,k<=t/\t<=n/\(∀j,k<=j->j<t->ShortQ (M k j)/\ShortQ (M k k))/\¬(ShortQ (M k t)/\ShortQ (M k k)):=by
 refine IZ fun h2=>?_;have:H6 SQ n k M=true:=(EY SQ).2 fun j a b=>⟨decide_eq_true (h2 j a b).1,decide_eq_true (h2 j a b).2⟩;rw[h]at this;cases this
theorem OU {n k i:Nat} {M:Mx} (h:H7 SQ n k i M=false):∃t,k<=t/\t<=n/\(∀j,k<=j->j<t->ShortQ (M i k)/\ShortQ (M k j)/\ShortQ (M i j)/\ShortQ (M i k*M k j))/\¬(ShortQ (M i k)/\ShortQ (M k t)/\ShortQ (M i t)/\ShortQ (M i k*M k t)):=by
 refine IZ fun h2=>?_;have:H7 SQ n k i M=true:=(EZ SQ).2 fun j a b=>⟨decide_eq_true (h2 j a b).1,decide_eq_true (h2 j a b).2.1,decide_eq_true (h2 j a b).2.2.1,decide_eq_true (h2 j a b).2.2.2⟩;rw[h]at this;cases this
theorem MatW.drewN {W:World} {B R n:Nat} {bl:Nat->Nat} {M:Mx} (h:MatW W B R n bl M) (q:Nat):MatW (W.drewN q) B R n bl M:=⟨h.lt,h.hd,h.fr,h.rows,h.inj,h.ne,h.lowR,h.low⟩
theorem OV {S:Rat->Bool} {n k i m:Nat} {M:Mx} (a:i<=m) (h:AM S n k i M=none):AM S n k m M=none:=by
 induction m with
 | zero=>rw[show i=0 by omega]at h;exact h
 | succ m ih =>
   by_cases e:i=m+1
   · rw[<-e];exact h
   · unfold AM;rw[ih (by omega)];rfl
def Rr (w:World) (R n k kb vb:Nat) (bl:Nat->Nat) (M2:Mx) (y:Nat) (wq:World):Prop :=
 ∃M3:Mx,Hid (AM SQ n k y M2=some M3)/\Hid (MatW wq w.heap.size R n bl M3)/\Hid (∀i j,i<n->j<=n->OkQ (M3 i j))/\Hid (Below w.heap.size w wq)/\Hid (Int1 wq w.heap.size n)/\Hid (Int1 wq kb k)/\Hid (Blk1 wq vb (.slice (some ⟨bl k,k*3,none⟩) (n+1-k) (n+1-k)))
theorem Ms {c0 c1 c2 c3 c6 c7 c8 bg bh bi bj bk bm bn bo bp bq br bs bt bu bv bw bx bz bA bB bC bD bE bF bG bH bI bJ bK bL bM bN bO bP bQ bR bS bT bU bW bX bY bZ b0 b1 b2 b3 b4 b5 b6 b7 b8 b9 ca cb cc cd ce cf cg ch ci cj ck cl cm cn co cq cr ct cu cv cw cx cy cz cA cB cC cD cE cF cG cH am an ao aq ar au av aw ax ay az aA aB aC aD aE aF aG aH aI aJ aK aL aM aN aO aP aQ aR aS aT aU aV a4 a5 dB dC dD a17 cN cP cR cS cT cU cV cW cX cY cZ c9 da db dc dd de df dh di dj dk dl dq dr:Value} {Q:Exit->Act->World->Prop} (R n k kb vb:Nat) (bl:Nat->Nat) (M2:Mx) (w w0:World) (hE:Env w) (dL:n<=8) (hk:k<n) (cM:Rr w R n k kb vb bl M2 0 w0)
 (hx:∀(u4 u5 u14 u15 u16 u17 u119 u120 u121 u122 u123 u124 u125 u126 u127 u128 u129 u130 u131 u132 u133 u134 u135 u136 u137 u138 u139 u140 u141 u142 u143 u144:Value) (wq:World),Rr w R n k kb vb bl M2 n wq->Q (.exit 4) ⟨#[c0,c1,c2,c3,u4,u5,c6,c7,c8,.pointer (some ⟨kb,0,none⟩),bg,.pointer (some ⟨vb,0,none⟩),bh,bi,u14,u15,u16,u17,bj,bk,bm,bn,bo,bp,bq,br,bs,bt,bu,bv,bw,bx,bz,bA,bB,bC,bD,bE,bF,bG,bH,bI,bJ,bK,bL,bM,bN,bO,bP,bQ,bR,bS,bT,bU,bW,bX,bY,bZ,b0,b1,b2,b3,b4,b5,b6,b7,b8,b9,ca,cb,cc,cd,ce,cf,cg,ch,ci,cj,ck,cl,cm,cn,co,cq,cr,ct,cu,cv,cw,cx,cy,cz,cA,cB,cC,cD,cE,cF,cG,cH,am,an,ao,aq,ar,au,av,aw,ax,ay,az,aA,aB,aC,aD,aE,aF,.slice (some ⟨R,0,none⟩) n n,.int .i64 (n:Int),u119,u120,u121,u122,u123,u124,u125,u126,u127,u128,u129,u130,u131,u132,u133,u134,u135,u136,u137,u138,u139,u140,u141,u142,u143,u144,aG,aH,aI,aJ,aK,aL,aM,aN,aO,aP,aQ,aR,aS,aT,aU,aV],[]⟩ wq)
 (hr:∀(u14 u15 u16 u17 u119 u120 u121 u122 u123 u124 u125 u126 u127 u128 u129 u130 u131 u132 u133 u134 u135 u136 u137 u138 u139 u140 u141 u142 u143 u144:Value) (wq:World),Below w.heap.size w wq->AM SQ n k n M2=none->Q .ret ⟨#[c0,c1,c2,c3,.slice none 0 0,.int .i64 2,c6,c7,c8,.pointer (some ⟨kb,0,none⟩),bg,.pointer (some ⟨vb,0,none⟩),bh,bi,u14,u15,u16,u17,bj,bk,bm,bn,bo,bp,bq,br,bs,bt,bu,bv,bw,bx,bz,bA,bB,bC,bD,bE,bF,bG,bH,bI,bJ,bK,bL,bM,bN,bO,bP,bQ,bR,bS,bT,bU,bW,bX,bY,bZ,b0,b1,b2,b3,b4,b5,b6,b7,b8,b9,ca,cb,cc,cd,ce,cf,cg,ch,ci,cj,ck,cl,cm,cn,co,cq,cr,ct,cu,cv,cw,cx,cy,cz,cA,cB,cC,cD,cE,cF,cG,cH,am,an,ao,aq,ar,au,av,aw,ax,ay,az,aA,aB,aC,aD,aE,aF,.slice (some ⟨R,0,none⟩) n n,.int .i64 (n:Int),u119,u120,u121,u122,u123,u124,u125,u126,u127,u128,u129,u130,u131,u132,u133,u134,u135,u136,u137,u138,u139,u140,u141,u142,u143,u144,aG,aH,aI,aJ,aK,aL,aM,aN,aO,aP,aQ,aR,aS,aT,aU,aV],[]⟩ wq) :
 Code.wp Tryz.prog (Code.loop VW) Q ⟨#[c0,c1,c2,c3,a4,a5,c6,c7,c8,.pointer (some ⟨kb,0,none⟩),bg,.pointer (some ⟨vb,0,none⟩),bh,bi,dB,dC,dD,a17,bj,bk,bm,bn,bo,bp,bq,br,bs,bt,bu,bv,bw,bx,bz,bA,bB,bC,bD,bE,bF,bG,bH,bI,bJ,bK,bL,bM,bN,bO,bP,bQ,bR,bS,bT,bU,bW,bX,bY,bZ,b0,b1,b2,b3,b4,b5,b6,b7,b8,b9,ca,cb,cc,cd,ce,cf,cg,ch,ci,cj,ck,cl,cm,cn,co,cq,cr,ct,cu,cv,cw,cx,cy,cz,cA,cB,cC,cD,cE,cF,cG,cH,am,an,ao,aq,ar,au,av,aw,ax,ay,az,aA,aB,aC,aD,aE,aF,.slice (some ⟨R,0,none⟩) n n,.int .i64 (n:Int),.int .i64 0,cN,cP,cR,cS,cT,cU,cV,cW,cX,cY,cZ,c9,da,db,dc,dd,de,df,dh,di,dj,dk,dl,dq,dr,aG,aH,aI,aJ,aK,aL,aM,aN,aO,aP,aQ,aR,aS,aT,aU,aV],[]⟩ w0:=by
 conv=>arg 2;arg 1;whnf
 conv=>arg 4;zeta
 have dK:k<=8:=by omega
 replace hE:=zh hE;replace cM:=zh cM;replace hx:=zh hx;replace hr:=zh hr
 go_loopw [119] (fun i wq=>∃y:Nat,y<=n/\i=.int .i64 (y:Int)/\Hid (Rr w R n k kb vb bl M2 y wq)) (fun i _=>n-(intOf i).toNat)
 case atStart=>exact⟨0,Nat.zero_le _,rfl,cM.out⟩
 case round =>
  obtain⟨i,hi,rfl,hI⟩:=hrel
  by_cases hlt2:i<n
  · obtain ⟨M3,ba,hM,hO,cJ,du,bb,dA⟩:=hI.out;clear hI;have c1:=hM.out.hd i hlt2;have c2:=hM.out.lt;have c3:=bb.out.cell;have c4:=bb.out.lt;obtain⟨e1,e2,e3⟩:=(hM.out.rows i hlt2).cell (j:=k) (by omega);have e4:=(hM.out.rows i hlt2).lt;have s2:(k:Int)<(n:Int)+1:=by omega
    have s3:(0:Int)<=(k:Int):=by omega
    obtain⟨fg,fn,fd,ad⟩:=CX (M3 i k);rw[ad]at e1 e2 e3;have aX:=zh (hM.out.alloc (.cells #[.bool fg,.string fn,.string fd] 40));have ak:=zh (bb.out.alloc (.cells #[.bool fg,.string fn,.string fd] 40));have aW:=zh (du.out.alloc (.cells #[.bool fg,.string fn,.string fd] 40));have a6:=zh (dA.out.alloc (.cells #[.bool fg,.string fn,.string fd] 40));have ag:=zh (cJ.out.alloc cJ.out.size (.cells #[.bool fg,.string fn,.string fd] 40));have aj:=zh (B3.new wr fg fn fd)
    by_cases hik:i=k
    · have h1:(i==k)=true:=by rw[beq_iff_eq];exact hik
      have h2:((i:Int)==(k:Int))=true:=by rw[beq_iff_eq];omega
      have aa:Hid (AM SQ n k (i+1) M2=some M3):=by
       show AM SQ n k (i+1) M2=some M3
       unfold AM;rw[ba.out]
       show BO SQ n k i M3=some M3
       unfold BO;rw[if_pos (.inl hik)]
      replace hik:=zh hik;replace ad:=zh ad
      go_wp2_with fail
      go_quiet (fail)
      go_wp2
      go_roundw
      case rel=>exact⟨i+1,by omega,by go_num,M3,aa,aX.out.drewN nq,hO,Cp ag.out nq,aW.out,ak.out,a6.out⟩
      case measure=>simp[intOf];omega
    · have h1:(i==k)=false:=by rw[beq_eq_false_iff_ne];exact hik
      have h2:((i:Int)==(k:Int))=false:=by rw[beq_eq_false_iff_ne];omega
      have kz:=zh H8;obtain⟨g1,g2,g3,g4,g5,g6⟩:=aj.out.facts;have k1:=ak.out.cell;have k2:=ak.out.lt;have k3:=aj.out.lt;have aY:Hid ((wr.alloc (.cells #[.bool fg,.string fn,.string fd] 40)).cell? ⟨kb,0,none⟩=some (.int .i64 (k:Int))/\(wr.alloc (.cells #[.bool fg,.string fn,.string fd] 40)).cell? ⟨wr.heap.size,0,none⟩=some (.bool fg)/\(wr.alloc (.cells #[.bool fg,.string fn,.string fd] 40)).cell? ⟨wr.heap.size,1,none⟩=some (.string fn)/\(wr.alloc (.cells #[.bool fg,.string fn,.string fd] 40)).cell? ⟨wr.heap.size,2,none⟩=some (.string fd)):=⟨k1,g1,g2,g3⟩;obtain⟨w4,a8⟩:∃W,W=wr.alloc (.cells #[.bool fg,.string fn,.string fd] 40):=⟨_,rfl⟩;rw[<-a8]at aX ak aW a6 ag aj aY k1 k2 k3 g1 g2 g3 g4 g5 g6;obtain⟨fb,aZ⟩:∃x,x=wr.heap.size:=⟨_,rfl⟩;rw[<-aZ]at aj aY k3 g1 g2 g3 g4 g5 g6;replace a8:=zh a8;replace aZ:=zh aZ;replace hik:=zh hik
      go_wp2_with fail
      rw[<-a8.out,<-aZ.out];clear c1 c2 c3 c4 e1 e2 e3 e4 hM bb dA du cJ a8 aZ
      by_cases h0:M3 i k=0
      · have aa:Hid (AM SQ n k (i+1) M2=some M3):=by
         show AM SQ n k (i+1) M2=some M3
         unfold AM;rw[ba.out]
         show BO SQ n k i M3=some M3
         unfold BO;rw[if_pos (.inr h0)]
        obtain ⟨rfl,rfl,rfl⟩:fg=false/\fn=⟨#[48]⟩/\fd=⟨#[49]⟩:=by
         rw[h0,rq_zero]at ad;injection ad with a1 a2;injection a2 with a3 a4;exact⟨a1.symm,a3.symm,a4.symm⟩
        replace ad:=zh ad;replace h0:=zh h0
        go_region_held3 (fun w'=>w'.cell? ⟨kb,0,none⟩=some (.int .i64 (k:Int))/\w'.cell? ⟨fb,0,none⟩=some (.bool false)/\w'.cell? ⟨fb,1,none⟩=some (.string ⟨#[48]⟩)/\w'.cell? ⟨fb,2,none⟩=some (.string ⟨#[49]⟩)) (first | (with_reducible exact aY.out) | (exact⟨(d.cell (p:=⟨kb,0,none⟩) k2).trans k1,(d.cell (p:=⟨fb,0,none⟩) k3).trans g1,(d.cell (p:=⟨fb,1,none⟩) k3).trans g2,(d.cell (p:=⟨fb,2,none⟩) k3).trans g3⟩) | go_keep)
         (first
           | (go_at_call 103;refine(kz.out _).mono ?_;rintro e w5 ⟨rfl,d⟩;replace d:Below w4.heap.size w4 w5:=(Below.refl _ w4).drew.trans d;have ai:=zh (aX.out.below d);have a0:=zh (ak.out.below d);have a9:=zh (aW.out.below d);have al:=zh (a6.out.below d);have cK:=zh (aj.out.below d);have ah:=zh (ag.out.trans (d.mono ag.out.size))))
        all_goals (
         go_wp2
         go_roundw
         case rel=>exact⟨i+1,by omega,by go_num,M3,aa,ai.out,hO,ah.out,a9.out,a0.out,al.out⟩
         case measure=>simp[intOf];omega
         )
      · have hz:(fn.toList==[48])=false:=by
         have:=Rm h0
         rwa [ad]at this
        replace ad:=zh ad
        go_region_held3 (fun w'=>w'.cell? ⟨kb,0,none⟩=some (.int .i64 (k:Int))/\w'.cell? ⟨fb,0,none⟩=some (.bool fg)/\w'.cell? ⟨fb,1,none⟩=some (.string fn)/\w'.cell? ⟨fb,2,none⟩=some (.string fd)) (first | (with_reducible exact aY.out) | (exact⟨(d.cell (p:=⟨kb,0,none⟩) k2).trans k1,(d.cell (p:=⟨fb,0,none⟩) k3).trans g1,(d.cell (p:=⟨fb,1,none⟩) k3).trans g2,(d.cell (p:=⟨fb,2,none⟩) k3).trans g3⟩) | go_keep)
         (first
           | (go_at_call 103;refine(kz.out _).mono ?_;rintro e w5 ⟨rfl,d⟩;replace d:Below w4.heap.size w4 w5:=(Below.refl _ w4).drew.trans d;have ai:=zh (aX.out.below d);have a0:=zh (ak.out.below d);have a9:=zh (aW.out.below d);have al:=zh (a6.out.below d);have cK:=zh (aj.out.below d);have ah:=zh (ag.out.trans (d.mono ag.out.size))))
        clear g1 g2 g3 g4 g5 g6 k1 k2 k3 aY aX ak aW a6 ag aj h1 h2;have ae:=zh (ai.out.rows i hlt2);have bd:=zh (ai.out.low i hlt2);have bf:=zh (cK.out.ne_row ae.out (by omega));have a7:=zh (al.out.ne_row ae.out);have dy:=zh (a0.out.ne_row ae.out);have dt:=zh (a9.out.ne_row ae.out);have dw:Hid (bl k≠bl i):=fun e=>hik.out (ai.out.inj k i hk hlt2 e).symm;have hS:=zh (ai.out.rows k hk);have ds:=zh ((EnvB.of hE.out).below ah.out);have be:Hid (B3 w5 fb (rq (M3 i k)).1 (rq (M3 i k)).2.1 (rq (M3 i k)).2.2):=by rw[ad.out];exact cK.out
        have k1:=a0.out.cell;have s4:¬n+1=k:=by omega
        cases af:H7 SQ n k i M3 with
        | true =>
          have cL:=(EZ SQ).1 af
          have kd:=zh (fun cap=>Mo w.heap.size (bl i) k (n+1) cap (fun j=>M3 i j) (M3 i k) (fun j=>M3 k j) fb vb (bl k) (n+1-k) w5 ds.out bd.out ae.out (by omega) (by omega) be.out bf.out al.out a7.out hS.out dw.out fun j a b=>by
           obtain⟨x1,x2,x3,x4⟩:=cL j a (by omega);exact⟨of_decide_eq_true x1,of_decide_eq_true x2,of_decide_eq_true x3,of_decide_eq_true x4⟩)
          have aa:Hid (AM SQ n k (i+1) M2=some (Dz k i M3)):=by
           show AM SQ n k (i+1) M2=some (Dz k i M3)
           unfold AM;rw[ba.out]
           show BO SQ n k i M3=some (Dz k i M3)
           unfold BO;rw[if_neg (by rintro(h | h);(· exact hik.out h);(· exact h0 h)),if_pos af]
          have dG:Hid (∀i' j,i'<n->j<=n->OkQ (Dz k i M3 i' j)):=fun i' j dx hj=>by
           unfold Dz
           split
           · rename_i hc;obtain⟨x1,x2,x3,x4⟩:=cL j hc.2 hj;exact NC (of_decide_eq_true x3) (of_decide_eq_true x4)
           · exact hO.out i' j dx hj
          replace h0:=zh h0;clear cL af hz
          all_goals (
           go_wp2_with fail
           refine(kd.out _).mono ?_;rintro e w6 ⟨rfl,hg,dz⟩;have cI:=zh (ah.out.trans (Ba hg bd.out ah.out.size))
           have dF:=zh (ai.out.change hlt2 hg (M':=Dz k i M3) (dz.congr fun j hj=>by
            unfold Dz
            by_cases a1:k<=j
            · rw[if_pos a1,if_pos ⟨rfl,a1⟩]
            · rw[if_neg a1,if_neg fun h=>a1 h.2]) (fun i' dx dI=>by funext j;unfold Dz;rw[if_neg fun h=>dI h.1]))
           have dH:=zh (a0.out.grown hg dy.out);have dE:=zh (a9.out.grown hg dt.out);have dJ:=zh (al.out.grown hg a7.out);clear hg dz k1;go_wp2
           go_roundw
           case rel=>exact⟨i+1,by omega,by go_num,_,aa,dF,dG,cI,dE,dH,dJ⟩
           case measure=>simp[intOf];omega
           )
        | false =>
          obtain⟨t,t1,t2,t3,t4⟩:=OU af;have kd:=zh (fun cap=>Mp w.heap.size (bl i) k (n+1) cap (fun j=>M3 i j) (M3 i k) (fun j=>M3 k j) fb vb (bl k) (n+1-k) w5 ds.out bd.out ae.out (by omega) (by omega) be.out bf.out al.out a7.out hS.out dw.out t t1 (by omega) t3 t4 (fun j a b=>⟨hO.out i j hlt2 (by omega),hO.out k j hk (by omega)⟩) (hO.out i k hlt2 (by omega)))
          have aa:Hid (AM SQ n k n M2=none):=by
           refine OV (i:=i+1) (by omega) ?_;unfold AM;rw[ba.out]
           show BO SQ n k i M3=none
           unfold BO;rw[if_neg (by rintro(h | h);(· exact hik.out h);(· exact h0 h)),if_neg (by rw[af];simp)]
          replace h0:=zh h0;clear t1 t2 t3 t4 af hz
          all_goals (
           go_wp2_with fail
           refine(kd.out _).mono ?_;rintro e w6 ⟨rfl,hg⟩;have cI:=zh (ah.out.trans (Ba hg bd.out ah.out.size));clear hg k1;go_wp2;apply hr.out
           · exact cI.out
           · exact aa.out
           )
  · obtain rfl:n=i:=by omega
    go_wp2;apply hx.out;exact hI.out
end Nt
end
section
open Go.RowKit Go.Shelf
namespace Nt
def B8:Code->List Code
 | .loop c=>B8 c
 | .seq a b=>B8 a++B8 b
 | .block _ c=>B8 c
 | .scope c=>B8 c
 | .cond _ a b=>B8 a++B8 b
 | .region a b c=>[.region a b c]
 | _=>[]
noncomputable def VX:Code:=((Tryz.f56.body.map B8).bind fun l=>l[20]?).getD .skip
theorem FO {w:World} {p q:Addr} {x y:Value} (hp:w.cell? p=some x) (hq:w.cell? q=some y) (v:Value):∃u,(w.setCell p v).cell? q=some u:=by
 by_cases e:q=p
 · rw[e];exact⟨v,World.cell?_setCell_same w _ _ hp⟩
 · exact⟨y,(World.cell?_setCell_other w _ _ _ (fun e2=>e (by first | exact e2 | exact e2.symm))).trans hq⟩
theorem Rs {c0 d1 d2 d3 d4 d5 c6 c8 bg bh bi bj bk bm bn bo bp bq br bs bt bu bv bw bx bz bA bB bC bD bE bF bG bH bI bJ bK bL bM bN bO bP bQ bR bS bT bU bW bX bY bZ b0 b1 b2 b3 b4 b5 b6 b7 b8 b9 ca cb cc cd ce cf cg ch ci cj ck cl cm cn co cq cr ct cu cv cx cy cz cA cB cC cD cE cF cG cH cI cJ cK cL cM be bf ad ae af ag ah ai aj ak al am an ao aq ar au av aw ax ay az aA aB aC aD aE aF aG aH aI aJ aK aL aM aN aO aP aQ aR aS aT aU aV aW aX aY aZ a0 a1 a2 a3 a4 a5 a6 a7 a8 a9 ba bb bd:Value} {Q:Exit->Act->World->Prop} (R n k f kb:Nat) (bl:Nat->Nat) (w3:World)
 (c1:w3.cell? ⟨kb,0,none⟩=some (.int .i64 (k:Int)))
 (c2:w3.cell? ⟨R,k+f,none⟩=some (.slice (some ⟨bl (k+f),0,none⟩) (n+1) (n+1)))
 (c3:w3.cell? ⟨R,k,none⟩=some (.slice (some ⟨bl k,0,none⟩) (n+1) (n+1)))
 (c4:w3.frozen? ⟨R,k+f,none⟩=false) (c5:w3.frozen? ⟨R,k,none⟩=false)
 (cw:kb≠R) (cR:n<=8) (cP:k<n) (cS:k+f<n)
 (h:∀u84 u85 u86 u87 u88 u89 u90 u91 u92 u93 u94 u95 u96 u97 u98 u99 u100 u101:Value,Q .normal ⟨#[c0,d1,d2,d3,d4,d5,c6,.slice (some ⟨R,0,none⟩) n n,c8,.pointer (some ⟨kb,0,none⟩),.int .i64 (f:Int),bg,bh,bi,bj,bk,bm,bn,bo,bp,bq,br,bs,bt,bu,bv,bw,bx,bz,bA,bB,bC,bD,bE,bF,bG,bH,bI,bJ,bK,bL,bM,bN,bO,bP,bQ,bR,bS,bT,bU,bW,bX,bY,bZ,b0,b1,b2,b3,b4,b5,b6,b7,b8,b9,ca,cb,cc,cd,ce,cf,cg,ch,ci,cj,ck,cl,cm,cn,co,cq,cr,ct,cu,cv,u84,u85,u86,u87,u88,u89,u90,u91,u92,u93,u94,u95,u96,u97,u98,u99,u100,u101,ad,ae,af,ag,ah,ai,aj,ak,al,am,an,ao,aq,ar,au,av,aw,ax,ay,az,aA,aB,aC,aD,aE,aF,aG,aH,aI,aJ,aK,aL,aM,aN,aO,aP,aQ,aR,aS,aT,aU,aV,aW,aX,aY,aZ,a0,a1,a2,a3,a4,a5,a6,a7,a8,a9,ba,bb,bd],[]⟩ (((w3.setCell ⟨R,k,none⟩ (.slice (some ⟨bl (k+f),0,none⟩) (n+1) (n+1))).setCell ⟨R,k+f,none⟩ (.slice (some ⟨bl k,0,none⟩) (n+1) (n+1))).drew)) :
 Code.wp Tryz.prog VX Q ⟨#[c0,d1,d2,d3,d4,d5,c6,.slice (some ⟨R,0,none⟩) n n,c8,.pointer (some ⟨kb,0,none⟩),.int .i64 (f:Int),bg,bh,bi,bj,bk,bm,bn,bo,bp,bq,br,bs,bt,bu,bv,bw,bx,bz,bA,bB,bC,bD,bE,bF,bG,bH,bI,bJ,bK,bL,bM,bN,bO,bP,bQ,bR,bS,bT,bU,bW,bX,bY,bZ,b0,b1,b2,b3,b4,b5,b6,b7,b8,b9,ca,cb,cc,cd,ce,cf,cg,ch,ci,cj,ck,cl,cm,cn,co,cq,cr,ct,cu,cv,cx,cy,cz,cA,cB,cC,cD,cE,cF,cG,cH,cI,cJ,cK,cL,cM,be,bf,ad,ae,af,ag,ah,ai,aj,ak,al,am,an,ao,aq,ar,au,av,aw,ax,ay,az,aA,aB,aC,aD,aE,aF,aG,aH,aI,aJ,aK,aL,aM,aN,aO,aP,aQ,aR,aS,aT,aU,aV,aW,aX,aY,aZ,a0,a1,a2,a3,a4,a5,a6,a7,a8,a9,ba,bb,bd],[]⟩ w3:=by
 have s0:(0:Int)<=(f:Int):=by omega
 have s7:(0:Int)<=(k:Int):=by omega
 have s1:(0:Int)<=(k:Int)+(f:Int):=by omega
 have s2:(k:Int)+(f:Int)<(n:Int):=by omega
 have s3:(k:Int)<(n:Int):=by omega
 have s4:IntKind.i64.wrap ((k:Int)+(f:Int))=(k:Int)+(f:Int):=IntWalk.i64_in _ (by omega);have s5:((k:Int)+(f:Int)).toNat=k+f:=by omega
 obtain⟨v1,cT⟩:∃u,(w3.setCell ⟨R,k,none⟩ (.slice (some ⟨bl (k+f),0,none⟩) (n+1) (n+1))).cell? ⟨R,k+f,none⟩=some u:=FO c3 c2 _;obtain⟨v2,cU⟩:∃u,(w3.setCell ⟨R,k+f,none⟩ (.slice (some ⟨bl k,0,none⟩) (n+1) (n+1))).cell? ⟨R,k,none⟩=some u:=FO c2 c3 _
 conv=>arg 2;whnf
 conv=>arg 4;zeta
 replace h:=zh h;have y1:(w3.setCell ⟨R,k,none⟩ (.slice (some ⟨bl (k+f),0,none⟩) (n+1) (n+1))).cell? ⟨kb,0,none⟩=some (.int .i64 (k:Int)):=(World.cell?_setCell_other w3 _ _ _ (fun e=>cw (congrArg Addr.block e).symm)).trans c1;have y2:((w3.setCell ⟨R,k,none⟩ (.slice (some ⟨bl (k+f),0,none⟩) (n+1) (n+1))).setCell ⟨R,k+f,none⟩ (.slice (some ⟨bl k,0,none⟩) (n+1) (n+1))).cell? ⟨kb,0,none⟩=some (.int .i64 (k:Int)):=(World.cell?_setCell_other _ _ _ _ (fun e=>cw (congrArg Addr.block e).symm)).trans y1;have cN:Hid (w3.cell? ⟨kb,0,none⟩=some (.int .i64 (k:Int))/\(w3.setCell ⟨R,k,none⟩ (.slice (some ⟨bl (k+f),0,none⟩) (n+1) (n+1))).cell? ⟨kb,0,none⟩=some (.int .i64 (k:Int))/\((w3.setCell ⟨R,k,none⟩ (.slice (some ⟨bl (k+f),0,none⟩) (n+1) (n+1))).setCell ⟨R,k+f,none⟩ (.slice (some ⟨bl k,0,none⟩) (n+1) (n+1))).cell? ⟨kb,0,none⟩=some (.int .i64 (k:Int))):=⟨c1,y1,y2⟩;have z0:w3.drew.cell? ⟨kb,0,none⟩=some (.int .i64 (k:Int)):=c1;have z1:(w3.setCell ⟨R,k,none⟩ (.slice (some ⟨bl (k+f),0,none⟩) (n+1) (n+1))).drew.cell? ⟨kb,0,none⟩=some (.int .i64 (k:Int)):=y1;have z2:((w3.setCell ⟨R,k,none⟩ (.slice (some ⟨bl (k+f),0,none⟩) (n+1) (n+1))).setCell ⟨R,k+f,none⟩ (.slice (some ⟨bl k,0,none⟩) (n+1) (n+1))).drew.cell? ⟨kb,0,none⟩=some (.int .i64 (k:Int)):=y2;clear y1 y2;refine wp_region_noPanic ?_;refine wp_region_held_drew (S:=(fun w'=>w'.cell? ⟨kb,0,none⟩=some (.int .i64 (k:Int)))) (by kernel_rfl) z0 (fun aa=>?_);refine tkdE (v:=?_) 0 rfl (by assumption) (Or.inl ⟨by rfl,?_⟩) ?_;rotate_left
 · (intro w d;(try dsimp only at d);go_simp<;>with_reducible rfl)
 simp only[Act.put,List.setIfInBounds_toArray];refine tkdE (v:=?_) 1 rfl (by assumption) (Or.inl ⟨by rfl,?_⟩) ?_;rotate_left
 · (intro w d;(try dsimp only at d);go_simp<;>with_reducible rfl)
 simp only[Act.put];refine tkdE (v:=?_) 2 rfl (by assumption) (Or.inl ⟨by rfl,?_⟩) ?_;rotate_left
 · (intro w d;(try dsimp only at d);go_simp<;>with_reducible rfl)
 simp only[Act.put];refine tkdE (v:=?_) 3 rfl (by assumption) (Or.inl ⟨by rfl,?_⟩) ?_;rotate_left
 · (intro w d;(try dsimp only at d);go_simp<;>with_reducible rfl)
 simp only[Act.put];refine tkdE (v:=?_) 4 rfl (by assumption) (Or.inl ⟨by rfl,?_⟩) ?_;rotate_left
 · (intro w d;(try dsimp only at d);go_simp<;>with_reducible rfl)
 simp only[Act.put];refine tkdE (v:=?_) 5 rfl (by assumption) (Or.inl ⟨by rfl,?_⟩) ?_;rotate_left
 · (intro w d;(try dsimp only at d);go_simp<;>with_reducible rfl)
 simp only[Act.put];refine tkdE (v:=?_) 6 rfl (by assumption) (Or.inl ⟨by rfl,?_⟩) ?_;rotate_left
 · (intro w d;(try dsimp only at d);go_simp<;>with_reducible rfl)
 simp only[Act.put];refine tkdE (v:=?_) 7 rfl (by assumption) (Or.inl ⟨by rfl,?_⟩) ?_;rotate_left
 · (intro w d;(try dsimp only at d);go_simp<;>with_reducible rfl)
 simp only[Act.put];refine tkdE (v:=?_) 8 rfl (by assumption) (Or.inl ⟨by rfl,?_⟩) ?_;rotate_left
 · (intro w d;(try dsimp only at d);go_simp<;>with_reducible rfl)
 simp only[Act.put];refine tkdE (v:=?_) 9 rfl (by assumption) (Or.inl ⟨by rfl,?_⟩) ?_;rotate_left
 · (intro w d;(try dsimp only at d);go_simp<;>with_reducible rfl)
 simp only[Act.put];refine tkdE (v:=?_) 10 rfl (by assumption) (Or.inl ⟨by rfl,?_⟩) ?_;rotate_left
 · (intro w d;(try dsimp only at d);go_simp<;>with_reducible rfl)
 simp only[Act.put];refine tkdE (v:=?_) 12 rfl (by assumption) (Or.inl ⟨by rfl,?_⟩) ?_;rotate_left
 · (intro w d;(try dsimp only at d);go_simp<;>with_reducible rfl)
 simp only[Act.put];refine tkdE (v:=?_) 13 rfl (by assumption) (Or.inl ⟨by rfl,?_⟩) ?_;rotate_left
 · (intro w d;(try dsimp only at d);go_simp<;>with_reducible rfl)
 simp only[Act.put];refine tkdE (v:=?_) 14 rfl (by assumption) (Or.inl ⟨by rfl,?_⟩) ?_;rotate_left
 · (intro w d;(try dsimp only at d);go_simp<;>with_reducible rfl)
 simp only[Act.put];refine wpAnyH_ready (rs:=[11,15]) (by kernel_rfl) (by simp) ?_;refine AllReadyH.cons (o:=_) rfl (fun K hK=>?_) ?_
 · go_simp;refine hK.out _ _ (by with_reducible exact z0) (fun a=>?_);clear hK K aa;have aa:=a;clear a
   try simp only[Act.put,List.setIfInBounds_toArray,List.set_cons_zero,List.set_cons_succ]
   refine wpAnyH_ready (rs:=[15]) (by kernel_rfl) (by simp) ?_;refine AllReadyH.cons (o:=_) rfl (fun K hK=>?_) ?_
   · go_simp;refine hK.out _ _ (by with_reducible exact z0) (fun a=>?_);clear hK K aa;have aa:=a;clear a
     try simp only[Act.put,List.setIfInBounds_toArray,List.set_cons_zero,List.set_cons_succ]
     refine tkdE (v:=?_) 16 rfl (by assumption) (Or.inl ⟨by rfl,?_⟩) ?_;rotate_left
     · (intro w d;(try dsimp only at d);go_simp<;>with_reducible rfl)
     simp only[Act.put,List.setIfInBounds_toArray];refine wpAnyH_ready (rs:=[17]) (by kernel_rfl) (by simp) ?_;refine AllReadyH.cons (o:=_) rfl (fun K hK=>?_) ?_
     · go_simp;refine hK.out _ _ (by with_reducible exact z1) (fun a=>?_);clear hK K aa;have aa:=a;clear a
       try simp only[Act.put,List.setIfInBounds_toArray,List.set_cons_zero,List.set_cons_succ]
       refine tkdE (v:=?_) 18 rfl (by assumption) (Or.inl ⟨by rfl,?_⟩) ?_;rotate_left
       · (intro w d;(try dsimp only at d);go_simp<;>with_reducible rfl)
       simp only[Act.put,List.setIfInBounds_toArray];refine wpAnyH_ready (rs:=[19]) (by kernel_rfl) (by simp) ?_;refine AllReadyH.cons (o:=_) rfl (fun K hK=>?_) ?_
       · go_simp;refine hK.out _ _ (by with_reducible exact z2) (fun a=>?_);clear hK K aa;have aa:=a;clear a
         try simp only[Act.put,List.setIfInBounds_toArray,List.set_cons_zero,List.set_cons_succ]
         refine wpAnyH_done (by kernel_rfl) ?_ _;refine NoPanic.normal ?_;exact h.out ..
       exact AllReadyH.nil
     exact AllReadyH.nil
   exact AllReadyH.nil
 refine AllReadyH.cons (o:=_) rfl (fun K hK=>?_) ?_
 · go_simp;refine hK.out _ _ (by with_reducible exact z0) (fun a=>?_);clear hK K aa;have aa:=a;clear a
   try simp only[Act.put,List.setIfInBounds_toArray,List.set_cons_zero,List.set_cons_succ]
   refine wpAnyH_ready (rs:=[11]) (by kernel_rfl) (by simp) ?_;refine AllReadyH.cons (o:=_) rfl (fun K hK=>?_) ?_
   · go_simp;refine hK.out _ _ (by with_reducible exact z0) (fun a=>?_);clear hK K aa;have aa:=a;clear a
     try simp only[Act.put,List.setIfInBounds_toArray,List.set_cons_zero,List.set_cons_succ]
     refine tkdE (v:=?_) 16 rfl (by assumption) (Or.inl ⟨by rfl,?_⟩) ?_;rotate_left
     · (intro w d;(try dsimp only at d);go_simp<;>with_reducible rfl)
     simp only[Act.put,List.setIfInBounds_toArray];refine wpAnyH_ready (rs:=[17]) (by kernel_rfl) (by simp) ?_;refine AllReadyH.cons (o:=_) rfl (fun K hK=>?_) ?_
     · go_simp;refine hK.out _ _ (by with_reducible exact z1) (fun a=>?_);clear hK K aa;have aa:=a;clear a
       try simp only[Act.put,List.setIfInBounds_toArray,List.set_cons_zero,List.set_cons_succ]
       refine tkdE (v:=?_) 18 rfl (by assumption) (Or.inl ⟨by rfl,?_⟩) ?_;rotate_left
       · (intro w d;(try dsimp only at d);go_simp<;>with_reducible rfl)
       simp only[Act.put,List.setIfInBounds_toArray];refine wpAnyH_ready (rs:=[19]) (by kernel_rfl) (by simp) ?_;refine AllReadyH.cons (o:=_) rfl (fun K hK=>?_) ?_
       · go_simp;refine hK.out _ _ (by with_reducible exact z2) (fun a=>?_);clear hK K aa;have aa:=a;clear a
         try simp only[Act.put,List.setIfInBounds_toArray,List.set_cons_zero,List.set_cons_succ]
         refine wpAnyH_done (by kernel_rfl) ?_ _;refine NoPanic.normal ?_;exact h.out ..
       exact AllReadyH.nil
     exact AllReadyH.nil
   exact AllReadyH.nil
 exact AllReadyH.nil
end Nt
end
section
open Go.RowKit Go.Shelf
namespace Nt
noncomputable def VY:Code:=((Tryz.f56.body.map Df).bind fun l=>l[1]?).getD .skip
def Mt (w:World) (R n:Nat) (M0:Mx) (y:Nat) (wq:World):Prop :=
 ∃(bl:Nat->Nat) (M:Mx),Hid (A6 SQ n y M0=.ok M)/\Hid (MatW wq w.heap.size R n bl M)/\Hid (∀i j,i<n->j<=n->OkQ (M i j))/\Hid (Below w.heap.size w wq)/\Hid (Int1 wq w.heap.size n)
theorem Mu {c0 c1 c2 c3 c6 c8 aT aU aV aW aX aY aZ a0 a1 a2 a3 a6 a7 a8 ba bb bd be bf bg bh bi bj bk bm bn bo bp bq br bs bt bu bv bw bx bz bA bB bC bD bE bF bG bH bI bJ bK bL bM bN bO bP bQ bR ai aj ak al am an ao aq ar au av aw ax ay az a4 a5 a9 dL dM dN dO dP dQ dR a17 dS dT dU a78 a79 dV dW dX dY dZ d0 d1 d2 d3 a89 d4 d5 d6 d7 d8 d9 ea eb ec ed cb cc cd ce cf cg ch ci cj ck cl cm cn co cq cr ct cu cv cw cx cy cz cA cB cC cD cE cF cG cH cI cJ cK cL cM cN cP cR cS cT cU cV cW cX cY:Value} {Q:Exit->Act->World->Prop} (R n:Nat) (M0:Mx) (w w0:World) (hE:Env w) (db:n<=8) (b7:w.heap.size≠R) (aI:Mt w R n M0 0 w0)
 (hx:∀(u4 u5 u9 u10 u11 u12 u13 u14 u15 u16 u17 u74 u75 u76 u77 u78 u79 u80 u81 u82 u83 u84 u85 u86 u87 u88 u89 u90 u91 u92 u93 u94 u95 u96 u97 u98 u99 u100 u101 u102 u103 u104 u105 u106 u107 u108 u109 u110 u111 u112 u113 u114 u115 u116 u117 u118 u119 u120 u121 u122 u123 u124 u125 u126 u127 u128 u129 u130 u131 u132 u133 u134 u135 u136 u137 u138 u139 u140 u141 u142 u143 u144 u145:Value) (wq:World),Mt w R n M0 n wq->Q (.exit 2) ⟨#[c0,c1,c2,c3,u4,u5,c6,.slice (some ⟨R,0,none⟩) n n,c8,u9,u10,u11,u12,u13,u14,u15,u16,u17,aT,aU,aV,aW,aX,aY,aZ,a0,a1,a2,a3,a6,a7,a8,ba,bb,bd,be,bf,bg,bh,bi,bj,bk,bm,bn,bo,bp,bq,br,bs,bt,bu,bv,bw,bx,bz,bA,bB,bC,bD,bE,bF,bG,bH,bI,bJ,bK,bL,bM,bN,bO,bP,bQ,bR,.int .i64 (n:Int),u74,u75,u76,u77,u78,u79,u80,u81,u82,u83,u84,u85,u86,u87,u88,u89,u90,u91,u92,u93,u94,u95,u96,u97,u98,u99,u100,u101,u102,u103,u104,u105,u106,u107,u108,u109,u110,u111,u112,u113,u114,u115,u116,u117,u118,u119,u120,u121,u122,u123,u124,u125,u126,u127,u128,u129,u130,u131,u132,u133,u134,u135,u136,u137,u138,u139,u140,u141,u142,u143,u144,u145,ai,aj,ak,al,am,an,ao,aq,ar,au,av,aw,ax,ay,az],[]⟩ wq)
 (hr:∀(er:Int) (u9 u10 u11 u12 u13 u14 u15 u16 u17 u74 u75 u76 u77 u78 u79 u80 u81 u82 u83 u84 u85 u86 u87 u88 u89 u90 u91 u92 u93 u94 u95 u96 u97 u98 u99 u100 u101 u102 u103 u104 u105 u106 u107 u108 u109 u110 u111 u112 u113 u114 u115 u116 u117 u118 u119 u120 u121 u122 u123 u124 u125 u126 u127 u128 u129 u130 u131 u132 u133 u134 u135 u136 u137 u138 u139 u140 u141 u142 u143 u144 u145:Value) (wq:World),Below w.heap.size w wq->A6 SQ n n M0=.error er->Q .ret ⟨#[c0,c1,c2,c3,.slice none 0 0,.int .i64 er,c6,.slice (some ⟨R,0,none⟩) n n,c8,u9,u10,u11,u12,u13,u14,u15,u16,u17,aT,aU,aV,aW,aX,aY,aZ,a0,a1,a2,a3,a6,a7,a8,ba,bb,bd,be,bf,bg,bh,bi,bj,bk,bm,bn,bo,bp,bq,br,bs,bt,bu,bv,bw,bx,bz,bA,bB,bC,bD,bE,bF,bG,bH,bI,bJ,bK,bL,bM,bN,bO,bP,bQ,bR,.int .i64 (n:Int),u74,u75,u76,u77,u78,u79,u80,u81,u82,u83,u84,u85,u86,u87,u88,u89,u90,u91,u92,u93,u94,u95,u96,u97,u98,u99,u100,u101,u102,u103,u104,u105,u106,u107,u108,u109,u110,u111,u112,u113,u114,u115,u116,u117,u118,u119,u120,u121,u122,u123,u124,u125,u126,u127,u128,u129,u130,u131,u132,u133,u134,u135,u136,u137,u138,u139,u140,u141,u142,u143,u144,u145,ai,aj,ak,al,am,an,ao,aq,ar,au,av,aw,ax,ay,az],[]⟩ wq) :
 Code.wp Tryz.prog (Code.loop VY) Q ⟨#[c0,c1,c2,c3,a4,a5,c6,.slice (some ⟨R,0,none⟩) n n,c8,a9,dL,dM,dN,dO,dP,dQ,dR,a17,aT,aU,aV,aW,aX,aY,aZ,a0,a1,a2,a3,a6,a7,a8,ba,bb,bd,be,bf,bg,bh,bi,bj,bk,bm,bn,bo,bp,bq,br,bs,bt,bu,bv,bw,bx,bz,bA,bB,bC,bD,bE,bF,bG,bH,bI,bJ,bK,bL,bM,bN,bO,bP,bQ,bR,.int .i64 (n:Int),.int .i64 0,dS,dT,dU,a78,a79,dV,dW,dX,dY,dZ,d0,d1,d2,d3,a89,d4,d5,d6,d7,d8,d9,ea,eb,ec,ed,cb,cc,cd,ce,cf,cg,ch,ci,cj,ck,cl,cm,cn,co,cq,cr,ct,cu,cv,cw,cx,cy,cz,cA,cB,cC,cD,cE,cF,cG,cH,cI,cJ,cK,cL,cM,cN,cP,cR,cS,cT,cU,cV,cW,cX,cY,ai,aj,ak,al,am,an,ao,aq,ar,au,av,aw,ax,ay,az],[]⟩ w0:=by
 conv=>arg 2;arg 1;whnf
 conv=>arg 4;zeta
 replace hE:=zh hE;replace aI:=zh aI;replace hx:=zh hx;replace hr:=zh hr;replace b7:=zh b7
 go_loopw [74] (fun i wq=>∃y:Nat,y<=n/\i=.int .i64 (y:Int)/\Hid (Mt w R n M0 y wq)) (fun i _=>n-(intOf i).toNat)
 case atStart=>exact⟨0,Nat.zero_le _,rfl,aI.out⟩
 case round =>
  obtain⟨k,hk,rfl,hI⟩:=hrel;have ef:=hI.out;obtain⟨bl,M,hS,hM,hO,ae,c9⟩:=ef
  by_cases hlt:k<n
  · have b6:Hid (Int1 (wr.alloc (.cells #[.int .i64 (k:Int)] 3)) wr.heap.size k):=Int1.new wr k;have bY:=zh (hM.out.alloc (.cells #[.int .i64 (k:Int)] 3));have kx:=zh (fun c=>Rn w.heap.size R n k c wr.heap.size bl M (wr.alloc (.cells #[.int .i64 (k:Int)] 3)) hlt (by omega) bY.out b6.out);have k0:(0:Int)<=(k:Int):=by omega
    have k1:(k:Int)<=(n:Int):=by omega
    have k2:¬n=k:=by omega
    cases hp:Da n k M (n-k) with
    | none =>
      have aG:I9 n k M=-1:=by unfold I9;rw[hp]
      have ad:Db SQ n k M=.error 12:=by unfold Db;rw[hp]
      have aB:=zh (Gs hS.out ad hlt);replace kx:=kx.out;rw[aG]at kx;replace kx:=zh kx;clear hp aG ad
      go_wp2_with fail
      refine(kx.out _).mono ?_;rintro e w3 ⟨rfl,hb⟩;have aK:=zh ((ae.out.alloc ae.out.size _).trans (hb.mono (ae.out.alloc ae.out.size _).size));clear hb;go_wp2;apply hr.out 12
      · exact aK.out
      · exact aB.out
    | some p =>
      obtain⟨ew,aQ,aR,_⟩:=F5 (by omega) hp;obtain⟨f,rfl⟩:∃f,p=k+f:=⟨p-k,by omega⟩;have aG:I9 n k M=(f:Int):=by unfold I9;rw[hp];show ((k+f-k:Nat):Int)=f;rw[Nat.add_sub_cancel_left]
      replace kx:=kx.out;rw[aG]at kx;replace kx:=zh kx;replace hp:=zh hp;replace aR:=zh aR;clear aG
      go_wp2_with fail
      refine(kx.out _).mono ?_;rintro e w3 ⟨rfl,hb⟩;have aK:=zh ((ae.out.alloc ae.out.size _).trans (hb.mono (ae.out.alloc ae.out.size _).size));have aa:=zh (bY.out.below hb);have b1:=zh (b6.out.below hb);have cZ:=zh ((c9.out.alloc (.cells #[.int .i64 (k:Int)] 3)).below hb);clear hb;have c1:=b1.out.cell;have c2:=aa.out.hd (k+f) aQ;have c3:=aa.out.hd k hlt;have c4:=aa.out.fr (k+f);have c5:=aa.out.fr k;have c6:=aa.out.lt;have s0:(0:Int)<=(f:Int):=by omega
      have s1:(0:Int)<=(k:Int)+(f:Int):=by omega
      have s2:(k:Int)+(f:Int)<(n:Int):=by omega
      have s3:(k:Int)<(n:Int):=by omega
      have s4:IntKind.i64.wrap ((k:Int)+(f:Int))=(k:Int)+(f:Int):=IntWalk.i64_in _ (by omega);have s5:((k:Int)+(f:Int)).toNat=k+f:=by omega
      have b5:wr.heap.size≠R:=Nat.ne_of_gt hM.out.lt;obtain⟨u1,ek⟩:∃u,(w3.setCell ⟨R,k,none⟩ (.slice (some ⟨bl (k+f),0,none⟩) (n+1) (n+1))).cell? ⟨R,k+f,none⟩=some u:=FO c3 c2 _;obtain⟨u2,el⟩:∃u,(w3.setCell ⟨R,k+f,none⟩ (.slice (some ⟨bl k,0,none⟩) (n+1) (n+1))).cell? ⟨R,k,none⟩=some u:=FO c2 c3 _
      go_wp2_with fail
      refine Rs R n k f wr.heap.size bl w3 c1 c2 c3 c4 c5 b5 db hlt aQ ?_;intro ey ez eA eB eC eD eE eF eG eH eI eJ eK eL eM eN es et;have aO:Hid (wr.heap.size≠R/\w.heap.size≠R):=⟨b5,b7.out⟩;have aC:Hid (MatW (((w3.setCell ⟨R,k,none⟩ (.slice (some ⟨bl (k+f),0,none⟩) (n+1) (n+1))).setCell ⟨R,k+f,none⟩ (.slice (some ⟨bl k,0,none⟩) (n+1) (n+1))).drew) w.heap.size R n (GG k (k+f) bl) (Bu k (k+f) M)):=(aa.out.swap hlt aQ).drew;have aE:Hid (Int1 (((w3.setCell ⟨R,k,none⟩ (.slice (some ⟨bl (k+f),0,none⟩) (n+1) (n+1))).setCell ⟨R,k+f,none⟩ (.slice (some ⟨bl k,0,none⟩) (n+1) (n+1))).drew) wr.heap.size k):=(b1.out.far (p:=⟨R,k,none⟩) aO.out.1 _).far (p:=⟨R,k+f,none⟩) aO.out.1 _;have bS:Hid (Int1 (((w3.setCell ⟨R,k,none⟩ (.slice (some ⟨bl (k+f),0,none⟩) (n+1) (n+1))).setCell ⟨R,k+f,none⟩ (.slice (some ⟨bl k,0,none⟩) (n+1) (n+1))).drew) w.heap.size n):=(cZ.out.far (p:=⟨R,k,none⟩) aO.out.2 _).far (p:=⟨R,k+f,none⟩) aO.out.2 _;have aL:Hid (Below w.heap.size w (((w3.setCell ⟨R,k,none⟩ (.slice (some ⟨bl (k+f),0,none⟩) (n+1) (n+1))).setCell ⟨R,k+f,none⟩ (.slice (some ⟨bl k,0,none⟩) (n+1) (n+1))).drew)):=((aK.out.setCell aa.out.lowR _).setCell aa.out.lowR _).drew;obtain⟨w4,dd⟩:∃W,W=((w3.setCell ⟨R,k,none⟩ (.slice (some ⟨bl (k+f),0,none⟩) (n+1) (n+1))).setCell ⟨R,k+f,none⟩ (.slice (some ⟨bl k,0,none⟩) (n+1) (n+1))).drew:=⟨_,rfl⟩;rw[<-dd]at aC aE bS aL ⊢;clear dd ek el c1 c2 c3 c4 c5 c6 s0 s1 s2 s4 s5 b5 aa b1 cZ aK bY b6 kx
      have aN:Hid (∀i j,i<n->j<=n->OkQ (Bu k (k+f) M i j)):=fun i j hi hj=>by
       unfold Bu
       split
       · exact hO.out _ _ aQ hj
       · split
         · exact hO.out _ _ hlt hj
         · exact hO.out _ _ hi hj
      have ah:Bu k (k+f) M k k≠0:=by unfold Bu;rw[if_pos rfl];exact aR.out
      have ad:Db SQ n k M=if H6 SQ n k (Bu k (k+f) M)=true then (match AM SQ n k n (Bn k (Bu k (k+f) M)) with | some M'=>.ok M' | none=>.error 2) else .error 2:=by
       unfold Db;rw[hp.out];try rfl
      replace ad:=zh ad;generalize Bu k (k+f) M=M1 at *;generalize GG k (k+f) bl=a at *;replace ah:=zh ah;clear aR hp u1 u2;have c1:=aE.out.cell;have c2:=aC.out.hd k hlt;have c3:=aC.out.lt;have c4:=aE.out.lt;have s0:(k:Int)<=(n:Int)+1:=by omega
      have s1:¬n+1=k:=by omega
      have da:Hid (w4.cell? ⟨wr.heap.size,0,none⟩=some (.int .i64 (k:Int))/\w4.cell? ⟨R,k,none⟩=some (.slice (some ⟨a k,0,none⟩) (n+1) (n+1))):=⟨c1,c2⟩
      go_wp2_with fail
      go_region_held3 (fun w'=>w'.cell? ⟨wr.heap.size,0,none⟩=some (.int .i64 (k:Int))/\w'.cell? ⟨R,k,none⟩=some (.slice (some ⟨a k,0,none⟩) (n+1) (n+1))) (first | (with_reducible exact da.out) | go_keep) (fail)
      have aJ:Hid (Blk1 (w4.alloc (.cells #[.slice (some ⟨a k,k*3,none⟩) (n+1-k) (n+1-k)] 27)).drew w4.heap.size (.slice (some ⟨a k,k*3,none⟩) (n+1-k) (n+1-k))):=heap_alloc_new w4 _;have aD:Hid (MatW (w4.alloc (.cells #[.slice (some ⟨a k,k*3,none⟩) (n+1-k) (n+1-k)] 27)).drew w.heap.size R n a M1):=(aC.out.alloc _).drew;have b2:Hid (Int1 (w4.alloc (.cells #[.slice (some ⟨a k,k*3,none⟩) (n+1-k) (n+1-k)] 27)).drew wr.heap.size k):=aE.out.alloc _;have bT:Hid (Int1 (w4.alloc (.cells #[.slice (some ⟨a k,k*3,none⟩) (n+1-k) (n+1-k)] 27)).drew w.heap.size n):=bS.out.alloc _;have aM:Hid (Below w.heap.size w (w4.alloc (.cells #[.slice (some ⟨a k,k*3,none⟩) (n+1-k) (n+1-k)] 27)).drew):=(aL.out.alloc aL.out.size _).drew;obtain⟨w5,de⟩:∃W,W=(w4.alloc (.cells #[.slice (some ⟨a k,k*3,none⟩) (n+1-k) (n+1-k)] 27)).drew:=⟨_,rfl⟩;rw[<-de]at aJ aD b2 bT aM ⊢;clear de aC aE bS aL c1 c2 c3 c4 s0 da hM ae c9;generalize w4.heap.size=vb at *;generalize wr.heap.size=kb at *;obtain⟨pg,pn,pd,aH⟩:=CX (M1 k k);have e0:=(aD.out.rows k hlt).cell (j:=k) (by omega);rw[aH]at e0;obtain⟨e1,e2,e3⟩:=e0;have e4:=(aD.out.rows k hlt).lt;have v1:=aJ.out.cell;have v2:=aJ.out.lt;have v3:0<n+1-k:=by omega
      replace aH:=zh aH;have d:=zh (aD.out.alloc (.cells #[.bool pg,.string pn,.string pd] 40));have b3:=zh (b2.out.alloc (.cells #[.bool pg,.string pn,.string pd] 40));have bU:=zh (bT.out.alloc (.cells #[.bool pg,.string pn,.string pd] 40));have b9:=zh (aJ.out.alloc (.cells #[.bool pg,.string pn,.string pd] 40));have af:=zh (aM.out.alloc aM.out.size (.cells #[.bool pg,.string pn,.string pd] 40));have aS:Hid (B3 (w5.alloc (.cells #[.bool pg,.string pn,.string pd] 40)) w5.heap.size (rq (M1 k k)).1 (rq (M1 k k)).2.1 (rq (M1 k k)).2.2):=by rw[aH.out];exact B3.new w5 _ _ _
      have b8:=zh (aS.out.ne_row (d.out.rows k hlt) (by omega))
      cases hd:H6 SQ n k M1 with
      | false =>
        obtain⟨t,t1,t2,t3,t4⟩:=OT hd;have kd:=zh (fun c=>Mm w.heap.size (a k) k (n+1) c (fun j=>M1 k j) (M1 k k) w5.heap.size _ ((EnvB.of hE.out).below af.out) (d.out.low k hlt) (d.out.rows k hlt) (by omega) (by omega) aS.out b8.out ah.out t t1 (by omega) t3 t4 (fun j _ h2=>aN.out k j hlt (by omega)) (aN.out k k hlt (by omega)));rw[hd,if_neg (by simp)]at ad;have aB:=zh (Gs hS.out ad.out hlt);have aP:=zh (d.out.low k hlt);clear t1 t2 t3 t4 hd
        go_wp2_with fail
        refine(kd.out _).mono ?_;rintro e w7 ⟨rfl,hg⟩;have aA:=zh (af.out.trans (Ba hg aP.out af.out.size));clear hg e1 e2 e3 e4 v1 v2;go_wp2;apply hr.out 2
        · exact aA.out
        · exact aB.out
      | true =>
        have aF:=(EY SQ).1 hd;have kd:=zh (fun c=>Ml w.heap.size (a k) k (n+1) c (fun j=>M1 k j) (M1 k k) w5.heap.size _ ((EnvB.of hE.out).below af.out) (d.out.low k hlt) (d.out.rows k hlt) (by omega) (by omega) aS.out b8.out ah.out fun j h1 h2=>⟨of_decide_eq_true (aF j h1 (by omega)).1,of_decide_eq_true (aF j h1 (by omega)).2⟩);rw[hd,if_pos rfl]at ad
        have bZ:Hid (∀i j,i<n->j<=n->OkQ (Bn k M1 i j)):=fun i j hi hj=>by
         unfold Bn
         split
         · rename_i hc;exact ND (of_decide_eq_true (aF j hc.2 hj).1) (of_decide_eq_true (aF j hc.2 hj).2) ah.out
         · exact aN.out i j hi hj
        have aP:=zh (d.out.low k hlt);clear hd aF
        go_wp2_with fail
        refine(kd.out _).mono ?_;rintro e w7 ⟨rfl,hg,hr⟩;have aA:=zh (af.out.trans (Ba hg aP.out af.out.size))
        have bX:=zh (d.out.change hlt hg (M':=Bn k M1) (hr.congr fun j hj=>by
         unfold Bn
         by_cases h1:k<=j
         · rw[if_pos h1,if_pos ⟨rfl,h1⟩]
         · rw[if_neg h1,if_neg fun h=>h1 h.2]) (fun i hi ej=>by funext j;unfold Bn;rw[if_neg fun h=>ej h.1]))
        have b4:=zh (b3.out.grown hg (b3.out.ne_row (d.out.rows k hlt)));have bW:=zh (bU.out.grown hg (bU.out.ne_row (d.out.rows k hlt)));have ca:=zh (b9.out.grown hg (b9.out.ne_row (d.out.rows k hlt)));clear hg hr e1 e2 e3 e4 v1 v2 kd d b3 bU b9 af aS b8 aD b2 bT aJ aM aP;generalize Bn k M1=M2 at *;go_wp2;clear aH aN ah;refine Ms R n k kb vb a M2 w w7 hE.out db hlt ⟨M2,rfl,bX,bZ,aA,bW,b4,ca⟩ ?_ ?_
        · intro z4 z5 em en eo ep df dh di dj dk dl dq dr ds dt du dw dx dy dz dA dB dC dD dE dF dG dH dI dJ dK wq hq;obtain⟨M3,ei,aa,eh,ee,eg,eu,ex⟩:=hq
          have dc:Hid (A6 SQ n (k+1) M0=.ok M3):=by
           show A6 SQ n (k+1) M0=.ok M3
           unfold A6;rw[hS.out]
           show Db SQ n k M=.ok M3
           rw[ad.out,ei.out]
          clear bX bZ aA bW b4 ca;go_wp2
          go_roundw
          case rel=>exact⟨k+1,by omega,by go_num,a,M3,dc,aa,eh,ee,eg⟩
          case measure=>simp[intOf];omega
        · intro em en eo ep df dh di dj dk dl dq dr ds dt du dw dx dy dz dA dB dC dD dE dF dG dH dI dJ dK wq b0 ag;have aB:=zh (Gs hS.out (show Db SQ n k M=.error 2 by rw[ad.out,ag]) hlt);replace b0:=zh b0;replace ag:=zh ag;clear bX bZ aA bW b4 ca;go_wp2;apply hr.out 2
          · exact b0.out
          · exact aB.out
  · obtain rfl:n=k:=by omega
    go_wp2;apply hx.out;exact hI.out
end Nt
end
section
open Go.RowKit Go.Shelf
namespace Nt
theorem Rt:(Tryz.prog.info? 27).map (fun i=>(i.zero,i.size,i.bytes))=some (some (.slice none 0 0),1,24):=by kernel_rfl
structure MatP (W:World) (B R n i:Nat) (bl:Nat->Nat) (M:Mx):Prop where
 lt:R<W.heap.size
 hd:∀x,x<i->W.cell? ⟨R,x,none⟩=some (.slice (some ⟨bl x,0,none⟩) (n+1) (n+1))
 hz:∀x,i<=x->x<n->W.cell? ⟨R,x,none⟩=some (.slice none 0 0)
 fr:∀x,W.frozen? ⟨R,x,none⟩=false
 rows:∀x,x<i->RowB W (bl x) (n+1) fun j=>rq (M x j)
 inj:∀x y,x<i->y<i->bl x=bl y->x=y
 ne:∀x,x<i->bl x≠R
 lowR:B<=R
 low:∀x,x<i->B<=bl x
theorem MatP.start (w:World) {B:Nat} (hB:B<=w.heap.size) (n:Nat) (M:Mx):MatP (w.alloc (.cells (madeCells #[.slice none 0 0] n) 27)) B w.heap.size n 0 (fun _=>0) M:=by
 have h:=heap_alloc_new w (.cells (madeCells #[(.slice none 0 0:Value)] n) 27);refine⟨by simp,fun x h=>absurd h (by omega),fun x _ hx=>?_,fun x=>by simp only[World.frozen?,h];simp,fun x h=>absurd h (by omega),fun x _ h=>absurd h (by omega),fun x h=>absurd h (by omega),hB,fun x h=>absurd h (by omega)⟩;simp only[World.cell?,h];simp[madeCells,hx];rw[Nat.mod_one];rfl
theorem MatP.done {W:World} {B R n:Nat} {bl:Nat->Nat} {M:Mx} (h:MatP W B R n n bl M):MatW W B R n bl M:=⟨h.lt,h.hd,h.fr,h.rows,h.inj,h.ne,h.lowR,h.low⟩
structure Laid (W W':World) (R i:Nat) (v:Value) (m:Nat) (r:Nat->Raw):Prop where
 os:W'.os=W.os
 tape:W'.tape=W.tape
 output:W'.output=W.output
 size:W.heap.size<W'.heap.size
 hd:∀x,W'.cell? ⟨R,x,none⟩=if x=i then some v else W.cell? ⟨R,x,none⟩
 fr:∀x,W'.frozen? ⟨R,x,none⟩=W.frozen? ⟨R,x,none⟩
 new:RowB W' W.heap.size m r
 block:∀k,k<W.heap.size->k≠R->W'.heap[k]? = W.heap[k]?
theorem Laid.start {W:World} {R i m:Nat} {v u:Value} {r:Nat->Raw} (hc:W.cell? ⟨R,i,none⟩=some u) (hR:R<W.heap.size):Laid W ((W.setCell ⟨R,i,none⟩ v).alloc (.cells (AF m r).toArray 40)) R i v m r:=by
 have d:(W.setCell ⟨R,i,none⟩ v).heap.size=W.heap.size:=by simp
 refine⟨rfl,rfl,rfl,by simp,fun x=>?_,fun x=>?_,?_,fun k hk aa=>?_⟩
 · rw[World.cell?_alloc_lt _ _ _ (by rw[d];exact hR)]
   by_cases e:x=i
   · rw[if_pos e,e];exact World.cell?_setCell_same W _ _ hc
   · rw[if_neg e,World.cell?_setCell_other _ _ _ _ (by intro e2;injection e2 with _ e3;first | exact e e3 | exact e e3.symm)]
 · have h1:=World.frozen?_of_block (w:=W.setCell ⟨R,i,none⟩ v) (w':=(W.setCell ⟨R,i,none⟩ v).alloc (.cells (AF m r).toArray 40)) (a:=⟨R,x,none⟩) (Below.heap_alloc _ _ R (by rw[d];exact hR));rw[h1];simp
 · have h:=heap_alloc_new (W.setCell ⟨R,i,none⟩ v) (.cells (AF m r).toArray 40);rw[d]at h;exact h
 · exact(Below.heap_alloc _ _ k (by rw[d];exact hk)).trans (Below.heap_setCell _ _ _ _ aa)
theorem Laid.drew {W W':World} {R i m:Nat} {v:Value} {r:Nat->Raw} (h:Laid W W' R i v m r):Laid W W'.drew R i v m r:=⟨h.os,h.tape,h.output,h.size,h.hd,h.fr,h.new,h.block⟩
theorem Laid.cell {W W':World} {R i m:Nat} {v:Value} {r:Nat->Raw} (h:Laid W W' R i v m r) {p:Addr} (hp:p.block<W.heap.size) (a:p.block≠R):W'.cell? p=W.cell? p:=World.cell?_of_block (h.block _ hp a)
theorem Mv {W:World} {b o n:Nat} {r:Nat->Raw} (h:∀j,j<n->W.cell? ⟨b,o+j*3,none⟩=some (.bool (r j).1)/\W.cell? ⟨b,o+j*3+1,none⟩=some (.string (r j).2.1)/\W.cell? ⟨b,o+j*3+2,none⟩=some (.string (r j).2.2)) :
 ∀t v,(AF n r)[t]? = some v->W.cell? ((⟨b,o,none⟩:Addr).add t)=some v:=by
 intro t v hv;have hl:=AB n r;have ht:t<n*3:=by rw[<-hl];exact(List.getElem?_eq_some_iff.1 hv).1
 have h1:=CU r (m:=n) (j:=t/3) (by omega) (t%3) (by omega);rw[show t/3*3+t%3=t by omega,hv]at h1;have ha:(⟨b,o,none⟩:Addr).add t=⟨b,o+t,none⟩:=by unfold Addr.add;split<;>simp_all
 rw[ha];obtain⟨c1,c2,c3⟩:=h (t/3) (by omega);have h6:t%3=0∨t%3=1∨t%3=2:=by omega
 rcases h6 with h6 | h6 | h6
 · rw[h6]at h1;rw[show t=t/3*3 by omega,c1];simpa [Eb] using h1.symm
 · rw[h6]at h1;rw[show o+t=o+t/3*3+1 by omega,c2];simpa [Eb] using h1.symm
 · rw[h6]at h1;rw[show o+t=o+t/3*3+2 by omega,c3];simpa [Eb] using h1.symm
theorem Ru (n:Nat) (r:Nat->Raw):∀v∈AF n r,v.oneCell'=true:=by
 intro v hv;unfold AF at hv;rw[List.mem_flatMap]at hv;obtain⟨j,_,hj⟩:=hv;simp only[Eb,List.mem_cons,List.not_mem_nil,or_false]at hj
 rcases hj with rfl | rfl | rfl<;>rfl
theorem OW (n:Nat) (r:Nat->Raw) (z:Raw):AF n r++(AF (n+1) fun _=>z).drop (AF n r).length=AF (n+1) fun j=>if j<n then r j else z:=by
 have h1:=AB n r;have h2:=AB n fun _=>z;rw[BM n fun _=>z,BM,h1,<-h2,List.drop_left,if_neg (by omega)]
 congr 1
 exact F7 fun j hj=>(if_pos hj).symm
theorem Laid.copy {W W':World} {R i n:Nat} {v:Value} {z:Raw} (h:Laid W W' R i v (n+1) fun _=>z) (hR:R<W.heap.size) (r:Nat->Raw) :
 Laid W (W'.setRow W.heap.size (AF n r++(AF (n+1) fun _=>z).drop (AF n r).length).toArray) R i v (n+1) fun j=>if j<n then r j else z:=by
 have aa:R≠W.heap.size:=by omega
 have ho:=setRow_other W' W.heap.size R (AF n r++(AF (n+1) fun _=>z).drop (AF n r).length).toArray aa;refine⟨h.os,h.tape,h.output,by have:=h.size;simpa [World.setRow] using this,fun x=>?_,fun x=>?_,?_,fun k hk d=>?_⟩
 · exact(World.cell?_of_block (a:=⟨R,x,none⟩) ho).trans (h.hd x)
 · exact(World.frozen?_of_block (a:=⟨R,x,none⟩) ho).trans (h.fr x)
 · have:=setRow_heap W' W.heap.size (AF (n+1) fun _=>z).toArray (AF n r++(AF (n+1) fun _=>z).drop (AF n r).length).toArray 40 (0,0) h.new;unfold RowB;rw[this,OW]
 · exact(setRow_other W' W.heap.size k _ (by omega)).trans (h.block k hk d)
theorem Laid.store {W W':World} {R i n:Nat} {v:Value} {r:Nat->Raw} (h:Laid W W' R i v (n+1) r) (hR:R<W.heap.size) (x:Raw) :
 Laid W ((((W'.setCell ⟨W.heap.size,n*3,none⟩ (.bool x.1)).setCell ⟨W.heap.size,n*3+1,none⟩ (.string x.2.1)).setCell ⟨W.heap.size,n*3+2,none⟩ (.string x.2.2)).drew) R i v (n+1) fun j=>if j=n then x else r j:=by
 have ho:∀k,k≠W.heap.size->(((W'.setCell ⟨W.heap.size,n*3,none⟩ (.bool x.1)).setCell ⟨W.heap.size,n*3+1,none⟩ (.string x.2.1)).setCell ⟨W.heap.size,n*3+2,none⟩ (.string x.2.2)).drew.heap[k]? = W'.heap[k]?:=fun k hk =>
  ((Below.heap_setCell _ _ _ _ (by exact hk)).trans (Below.heap_setCell _ _ _ _ (by exact hk))).trans (Below.heap_setCell _ _ _ _ (by exact hk))
 refine⟨h.os,h.tape,h.output,by have:=h.size;simpa using this,fun y=>?_,fun y=>?_,h.new.set (by omega) x,fun k hk d=>?_⟩
 · exact(World.cell?_of_block (a:=⟨R,y,none⟩) (ho R (by omega))).trans (h.hd y)
 · exact(World.frozen?_of_block (a:=⟨R,y,none⟩) (ho R (by omega))).trans (h.fr y)
 · exact(ho k (by omega)).trans (h.block k hk d)
theorem Laid.congr {W W':World} {R i m:Nat} {v:Value} {r s:Nat->Raw} (h:Laid W W' R i v m r) (e:∀j,j<m->r j=s j):Laid W W' R i v m s:=⟨h.os,h.tape,h.output,h.size,h.hd,h.fr,h.new.congr e,h.block⟩
theorem Laid.bel {w W W':World} {R i m:Nat} {v:Value} {r:Nat->Raw} (h:Laid W W' R i v m r) (hb:Below w.heap.size w W) (hR:w.heap.size<=R):Below w.heap.size w W' :=
 ⟨h.os.trans hb.os,h.tape.trans hb.tape,h.output.trans hb.output,by have:=hb.size;have:=h.size;omega,fun k hk=>(h.block k (by have:=hb.size;omega) (by omega)).trans (hb.block k hk)⟩
theorem MatP.step {W W':World} {B R n i:Nat} {bl:Nat->Nat} {M:Mx} (h:MatP W B R n i bl M) (hB:B<=W.heap.size)
 (hL:Laid W W' R i (.slice (some ⟨W.heap.size,0,none⟩) (n+1) (n+1)) (n+1) fun j=>rq (M i j)):MatP W' B R n (i+1) (fun x=>if x=i then W.heap.size else bl x) M:=by
 have a:∀x,x<i->bl x<W.heap.size:=fun x hx=>(h.rows x hx).lt;refine⟨by have:=h.lt;have:=hL.size;omega,fun x hx=>?_,fun x h1 h2=>?_,fun x=>(hL.fr x).trans (h.fr x),fun x hx=>?_,fun x y hx hy e=>?_,fun x hx=>?_,h.lowR,fun x hx=>?_⟩
 · rw[hL.hd]
   by_cases e:x=i
   · rw[if_pos e,if_pos e]
   · rw[if_neg e,if_neg e];exact h.hd x (by omega)
 · rw[hL.hd,if_neg (by omega)];exact h.hz x (by omega) h2
 · by_cases e:x=i
   · rw[if_pos e,e];exact hL.new
   · rw[if_neg e];exact(hL.block _ (a x (by omega)) (h.ne x (by omega))).trans (h.rows x (by omega))
 · by_cases e1:x=i
   · by_cases e2:y=i
     · omega
     · rw[if_pos e1,if_neg e2]at e;have:=a y (by omega);omega
   · by_cases e2:y=i
     · rw[if_neg e1,if_pos e2]at e;have:=a x (by omega);omega
     · rw[if_neg e1,if_neg e2]at e;exact h.inj x y (by omega) (by omega) e
 · by_cases e:x=i
   · rw[if_pos e];have:=h.lt;omega
   · rw[if_neg e];exact h.ne x (by omega)
 · by_cases e:x=i
   · rw[if_pos e];exact hB
   · rw[if_neg e];exact h.low x (by omega)
theorem JH (w:World) (a:Bool) (b c:ByteArray) (t:TypeId):∀j u,(Eb (a,b,c))[j]? = some u->(w.alloc (.cells #[.bool a,.string b,.string c] t)).cell? (Addr.add ⟨w.heap.size,0,none⟩ j)=some u:=by
 intro j u hj
 match j,hj with
 | 0,hj=>simp[Eb]at hj;subst hj;simp[Addr.add]
 | 1,hj=>simp[Eb]at hj;subst hj;simp[Addr.add]
 | 2,hj=>simp[Eb]at hj;subst hj;simp[Addr.add]
 | j+3,hj=>simp[Eb]at hj
theorem FP (x:Raw):∀u∈Eb x,u.oneCell'=true:=by
 intro u hu;simp[Eb]at hu
 rcases hu with rfl | rfl | rfl<;>rfl
theorem Rv {w:World} {B B':Nat} {t:TypeId} {size:Nat} {v:Value} {n:Nat} {xs:List Value} (hb:B<=B') (h:w.ownsRow B' t size v n xs):w.ownsRow B t size v n xs:=by
 obtain⟨h1,h2⟩:=h;refine⟨h1,?_⟩
 rcases h2 with h2 | ⟨g,cap,cur,hv,hg,hh⟩
 · exact .inl h2
 · exact .inr ⟨g,cap,cur,hv,Nat.le_trans hb hg,hh⟩
theorem OX (Aa Ab:Option Addr) (n ca cb:Nat) (la:List RowH) (lb:List Raw) (M0:Mx) (w:World) (hE:Env w) (ha:la.length=n) (af:lb.length=n) (hs:SysIn w Aa Ab la lb) (hv:allV lb=true) (hm:DF n la=true) (aC:n<=8)
 (ao:∀i (h:i<la.length),la[i].2.2.length=n/\∀j (h2:j<la[i].2.2.length),la[i].2.2[j]=rq (M0 i j)) (aq:∀i (h:i<lb.length),lb[i]=rq (M0 i n)) (ar:∀i j,i<n->j<=n->OkQ (M0 i j)) :
 Calls Tryz.prog 56 #[.slice Aa n ca,.slice Ab n cb] w (IY n M0 w):=by
 have kv:=D0 Ab cb lb (nW w n) (hE.below (B9 _ _)) (hs.below (B9 _ _)).mb hs.nb hs.zb;have ka:=fun W (h1:Env W) (h2:Int1 W w.heap.size n) (h3:SysIn W Aa Ab la lb)=>Gq n Aa ca la w.heap.size W h1 h2 h3.ma h3.na h3.za;have a4:=run_make_row' (P:=Tryz.prog) 73 27 (.slice none 0 0) 24 Tryz.underlying73 Rt rfl .i64 .i64 n (by omega) (by omega);rw[hv,af]at kv;rw[hm,ha]at ka;replace kv:=zh kv;replace ka:=zh ka;replace hs:=zh hs;replace hE:=zh hE;replace ao:=zh ao;replace ar:=zh ar;replace aq:=zh aq;replace ha:=zh ha;replace af:=zh af;clear hv hm;go_enter Tryz.func56,Tryz.ntmps56
 go_wp2_with fail
 refine kv.out.mono ?_;rintro e w1 ⟨rfl,hb⟩;have hB:=zh ((B9 w n).trans (hb.mono (by simp)));have hn:=zh ((Int1.new w n).below hb);clear hb
 go_wp2_with fail
 refine(ka.out _ (hE.out.below hB.out) hn.out (hs.out.below hB.out)).mono ?_;rintro e w2 ⟨rfl,hb⟩;have al:=zh (hB.out.trans (hb.mono hB.out.size));have aB:=zh (hn.out.below hb);have c1:=aB.out.cell;have c2:=aB.out.lt;have c3:Hid (Int1 (w2.alloc (.cells (madeCells #[(.slice none 0 0:Value)] n) 27)) w.heap.size n):=aB.out.alloc _;have hP:Hid (MatP (w2.alloc (.cells (madeCells #[(.slice none 0 0:Value)] n) 27)) w.heap.size w2.heap.size n 0 (fun _=>0) M0):=MatP.start w2 al.out.size n M0;have aJ:Hid (Below w.heap.size w (w2.alloc (.cells (madeCells #[(.slice none 0 0:Value)] n) 27))):=al.out.alloc al.out.size _;clear hb;go_wp2;obtain⟨R,hR⟩:∃R,R=w2.heap.size:=⟨_,rfl⟩;rw[<-hR]at hP ⊢;have aD:Hid (w.heap.size≠R):=by rw[hR];exact Nat.ne_of_lt c2
 clear a4 c1 c2;replace hR:=zh hR;have ah:=F8 27 Tryz.underlying27 (n+1) (by omega);rw[show ((n+1:Nat):Int)=(n:Int)+1 by omega]at ah
 go_loopw [43] (fun i wr=>∃(y:Nat) (bl:Nat->Nat),y<=n/\i=.int .i64 (y:Int)/\Hid (MatP wr w.heap.size R n y bl M0)/\Hid (Below w.heap.size w wr)/\Hid (Int1 wr w.heap.size n)) (fun i _=>n-(intOf i).toNat)
 case atStart=>exact⟨0,_,Nat.zero_le _,rfl,hP,aJ,c3⟩
 case round =>
  obtain⟨i,bl,hi,rfl,hQ,a,aa⟩:=hrel
  by_cases hlt:i<n
  · obtain ⟨ba,oa,rfl,a0,aN⟩:=hs.out.ma (by rw[ha.out];omega);obtain⟨bb,ob,rfl,ay,aO⟩:=hs.out.mb (by rw[af.out];omega);obtain⟨a1,ak⟩:=aN i (by rw[ha.out];exact hlt);obtain⟨b1,b2,b3⟩:=aO i (by rw[af.out];exact hlt);clear aN aO;obtain⟨hl,aS⟩:=ao.out i (by rw[ha.out];exact hlt);obtain⟨bx,ox,aM,a2,aP⟩:=ak (by rw[hl];omega);rw[hl,aM]at a1
    have aQ:Hid (∀j,j<n->w.cell? ⟨bx,ox+j*3,none⟩=some (.bool (rq (M0 i j)).1)/\w.cell? ⟨bx,ox+j*3+1,none⟩=some (.string (rq (M0 i j)).2.1)/\w.cell? ⟨bx,ox+j*3+2,none⟩=some (.string (rq (M0 i j)).2.2)):=fun j hj=>by
     have h1:=aP j (by rw[hl];exact hj);rw[aS j (by rw[hl];exact hj)]at h1;exact h1
    rw[aq.out i (by rw[af.out];exact hlt)]at b1 b2 b3;clear hl aS aM aP ak;generalize (la[i]'(by rw[ha.out];exact hlt)).2.1=ci at *;replace a1:=(a.out.cell (p:=⟨ba,oa+i,none⟩) a0).trans a1;replace b1:=(a.out.cell (p:=⟨bb,ob+i*3,none⟩) ay).trans b1;replace b2:=(a.out.cell (p:=⟨bb,ob+i*3+1,none⟩) ay).trans b2;replace b3:=(a.out.cell (p:=⟨bb,ob+i*3+2,none⟩) ay).trans b3;have i0:(0:Int)<=(i:Int):=by omega
    have i1:(i:Int)<(n:Int):=by omega
    have r1:=hQ.out.hz i (Nat.le_refl _) hlt;have r2:=hQ.out.fr i;have r3:=hQ.out.lt;have n1:=aa.out.cell;have n2:=aa.out.lt
    go_wp2_with fail
    obtain⟨W1,aw⟩:∃W,W=(wr.setCell ⟨R,i,none⟩ (.slice (some ⟨wr.heap.size,0,none⟩) (n+1) (n+1))).alloc (.cells (AF (n+1) fun _=>zraw).toArray 40):=⟨_,rfl⟩;rw[<-aw];have ag:Hid (Laid wr W1 R i (.slice (some ⟨wr.heap.size,0,none⟩) (n+1) (n+1)) (n+1) fun _=>zraw):=by rw[aw];exact Laid.start r1 r3
    have aT:=hQ.out.lowR;have d1:W1.cell? ⟨R,i,none⟩=some (.slice (some ⟨wr.heap.size,0,none⟩) (n+1) (n+1)):=(ag.out.hd i).trans (if_pos rfl);have a5:=a.out.size;have d2:=(ag.out.cell (p:=⟨ba,oa+i,none⟩) (by show ba<_;omega) (by show ba≠R;omega)).trans a1
    have a3:∀ty,(Builtin.copy_ #[27,27] ty #[.slice (some ⟨wr.heap.size,0,none⟩) (n+1) (n+1),.slice (some ⟨bx,ox,none⟩) n ci]).run Tryz.prog W1.drew=.ok (goInt n) (W1.drew.setRow wr.heap.size (AF n (fun j=>rq (M0 i j))++(AF (n+1) fun _=>zraw).drop (AF n (fun j=>rq (M0 i j))).length).toArray):=fun ty =>
     Mi W1.drew _ _ ty wr.heap.size (n+1) (n+1) ⟨bx,ox,none⟩ n ci (AF (n+1) fun _=>zraw) (AF n fun j=>rq (M0 i j)) Tryz.underlying27 ag.out.drew.new (AB _ _) (by omega)
      (Mv fun j hj=>by
        obtain⟨k1,k2,k3⟩:=aQ.out j hj;have q:∀o,W1.drew.cell? ⟨bx,o,none⟩=w.cell? ⟨bx,o,none⟩:=fun o=>(ag.out.cell (p:=⟨bx,o,none⟩) (by show bx<_;omega) (by show bx≠R;omega)).trans (a.out.cell (p:=⟨bx,o,none⟩) a2);exact⟨(q _).trans k1,(q _).trans k2,(q _).trans k3⟩) (by rw[AB,AB];omega) (Ru _ _)
    have d:=zh (ag.out.drew.copy r3 (fun j=>rq (M0 i j)));clear aw ah a1 r1 r2;generalize (AF n (fun j=>rq (M0 i j))++(AF (n+1) fun _=>zraw).drop (AF n (fun j=>rq (M0 i j))).length).toArray=cells2 at *;go_region;obtain⟨W2,aL⟩:∃W,W=W1.drew.setRow wr.heap.size cells2:=⟨_,rfl⟩;rw[<-aL]at d ⊢;clear aL a3 d1 d2;have d1:W2.cell? ⟨R,i,none⟩=some (.slice (some ⟨wr.heap.size,0,none⟩) (n+1) (n+1)):=(d.out.hd i).trans (if_pos rfl);have d2:=d.out.block w.heap.size (by omega) aD.out;have aX:Hid (Int1 W2 w.heap.size n):=d2.trans aa.out;clear d2 n1;have n1:=aX.out.cell;replace b1:=(d.out.cell (p:=⟨bb,ob+i*3,none⟩) (by show bb<_;omega) (by show bb≠R;omega)).trans b1;replace b2:=(d.out.cell (p:=⟨bb,ob+i*3+1,none⟩) (by show bb<_;omega) (by show bb≠R;omega)).trans b2;replace b3:=(d.out.cell (p:=⟨bb,ob+i*3+2,none⟩) (by show bb<_;omega) (by show bb≠R;omega)).trans b3;obtain⟨z1,z2,z3⟩:=d.out.new.cell (j:=n) (by omega);rw[if_neg (by omega)]at z1 z2 z3;have f1:=d.out.new.frozen (n*3);have f2:=d.out.new.frozen (n*3+1);have f3:=d.out.new.frozen (n*3+2);have j0:(0:Int)<=(n:Int):=by omega
    have j1:(n:Int)<(n:Int)+1:=by omega
    have l1:=d.out.new.lt
    go_wp2_with fail
    go_region
    have au:=zh ((d.out.store r3 (rq (M0 i n))).congr (s:=fun j=>rq (M0 i j)) fun j hj=>by
     by_cases e:j=n
     · rw[if_pos e,e]
     · rw[if_neg e,if_pos (by omega)])
    have aZ:=zh (hQ.out.step a5 au.out);have aW:=zh (au.out.bel a.out aT);have aY:=zh ((au.out.block w.heap.size (by omega) aD.out).trans aa.out);go_wp2
    go_roundw
    case rel=>exact⟨i+1,_,by omega,by go_num,aZ,aW,aY⟩
    case measure=>simp[intOf];omega
  · obtain rfl:n=i:=by omega
    have aK:=zh hQ.out.done;clear hQ;go_wp2;have aC:n<=8:=aC;clear hP aJ c3 hlt ah;refine Mu R n M0 w _ hE.out aC aD.out ⟨bl,M0,rfl,aK,ar,a,aa⟩ ?_ ?_
    · intro u4 u5 u9 u10 u11 u12 u13 u14 u15 u16 u17 u74 u75 u76 u77 u78 u79 u80 u81 u82 u83 u84 u85 u86 u87 u88 u89 u90 u91 u92 u93 u94 u95 u96 u97 u98 u99 u100 u101 u102 u103 u104 u105 u106 u107 u108 u109 u110 u111 u112 u113 u114 u115 u116 u117 u118 u119 u120 u121 u122 u123 u124 u125 u126 u127 u128 u129 u130 u131 u132 u133 u134 u135 u136 u137 u138 u139 u140 u141 u142 u143 u144 u145 wq hq;clear aK a aa;obtain⟨ae,M,hS,hM,hO,a,aa⟩:=hq;have aE:=a.out.size;have am:=aa.out.cell;have an:=aa.out.lt;have av:=hM.out.lt;obtain⟨i0,aA,aV⟩:=Option.map_eq_some_iff.1 infoQ;simp only[Prod.mk.injEq]at aV;obtain⟨aG,aH,aI⟩:=aV;go_wp2;replace aA:=zh aA;replace aG:=zh aG;replace aH:=zh aH;replace aI:=zh aI
      go_loopw [18,148] (fun v i wz=>∃y:Nat,y<=n/\i=.int .i64 (y:Int)/\Hid (wz.ownsRow wq.heap.size 40 3 v y (AF y fun i=>rq (M i n)))/\Hid (Below wq.heap.size wq wz)) (fun _ i _=>n-(intOf i).toNat)
      case atStart=>exact⟨0,Nat.zero_le _,rfl,World.ownsRow_nil _ _ _ _,Below.refl _ _⟩
      case round =>
       obtain⟨y,hy,rfl,ai,ad⟩:=hrel
       by_cases hlt9:y<n
       · have g1:=(ad.out.cell (p:=⟨R,y,none⟩) av).trans (hM.out.hd y hlt9);obtain⟨e1,e2,e3⟩:=(hM.out.rows y hlt9).cell (j:=n) (by omega);have e4:=(hM.out.rows y hlt9).lt;replace e1:=(ad.out.cell (p:=⟨ae y,n*3,none⟩) e4).trans e1;replace e2:=(ad.out.cell (p:=⟨ae y,n*3+1,none⟩) e4).trans e2;replace e3:=(ad.out.cell (p:=⟨ae y,n*3+2,none⟩) e4).trans e3;have g2:=(ad.out.cell (p:=⟨w.heap.size,0,none⟩) an).trans am;have g3:(n:Int)<(n:Int)+1:=by omega
         have g4:(0:Int)<=(n:Int):=by omega
         have g5:(0:Int)<=(y:Int):=by omega
         have g6:(y:Int)<(n:Int):=by omega
         have aU:=ad.out.size;clear e4 aE am an av;obtain⟨rv,aj⟩:∃x,x=rq (M y n):=⟨_,rfl⟩;rw[<-aj]at e1 e2 e3;obtain⟨ra,rb,rc⟩:=rv;replace aj:=zh aj;replace e1:wr.cell? ⟨ae y,n*3,none⟩=some (.bool ra):=e1;replace e2:wr.cell? ⟨ae y,n*3+1,none⟩=some (.string rb):=e2;replace e3:wr.cell? ⟨ae y,n*3+2,none⟩=some (.string rc):=e3
         go_wp2_with (at_builtin;refine wpList_append_own _ rfl _ _ 27 rfl wq.heap.size 40 i0 (.agg #[.bool false,.string ⟨#[]⟩,.string ⟨#[]⟩]) 3 40 Tryz.underlying27 aA.out aG.out aH.out aI.out rfl (by decide) u18 y (AF y fun i=>rq (M i n)) rfl (ai.out.alloc _) ⟨wr.heap.size,0,none⟩ 1 1 (Eb (ra,rb,rc)) rfl rfl (JH _ _ _ _ _) (FP _) (by unfold maxLen;omega) (by omega) (by simp;omega) ?_;intro v2 w2 aF aR _)
         refine⟨⟨y+1,by omega,by go_num,?_,(ad.out.alloc aU _).grown aR (by simp;omega) (fun b e=>(ai.out.lt b e).1)⟩,by simp only[intOf];omega⟩;rw[BM,<-aj.out];exact aF
       · obtain rfl:n=y:=by omega
         clear am an av;go_wp2;go_ret2;exact⟨a.out.trans (ad.out.mono aE),.inl ⟨M,_,hS.out,rfl,Rv aE ai.out⟩⟩
    · intro er u9 u10 u11 u12 u13 u14 u15 u16 u17 u74 u75 u76 u77 u78 u79 u80 u81 u82 u83 u84 u85 u86 u87 u88 u89 u90 u91 u92 u93 u94 u95 u96 u97 u98 u99 u100 u101 u102 u103 u104 u105 u106 u107 u108 u109 u110 u111 u112 u113 u114 u115 u116 u117 u118 u119 u120 u121 u122 u123 u124 u125 u126 u127 u128 u129 u130 u131 u132 u133 u134 u135 u136 u137 u138 u139 u140 u141 u142 u143 u144 u145 wq ax az;replace ax:=zh ax;replace az:=zh az;go_ret2;exact⟨ax.out,.inr ⟨er,az.out,rfl⟩⟩
end Nt
end
section
open Go.RowKit Go.Shelf
namespace Nt
theorem NF {a b:ByteArray} (h:a.toList=b.toList):a=b:=by
 rw[Lib.toList_data,Lib.toList_data]at h
 cases a;cases b;exact congrArg ByteArray.mk (Array.toList_inj.1 h)
end Nt
end
section
open Go.RowKit Go.Shelf
namespace Nt
end Nt
end
section
open Go.RowKit Go.Shelf
namespace Nt
def mx (l:List (List Rat)):Mx:=fun i j=>(l.getD i []).getD j 0
def Wt (n:Nat) (l:List (List Rat)) (x:List Rat):Bool :=
 match A6 SQ n n (mx l) with
 | .ok M=>(List.range n).map (fun i=>M i n)==x
 | .error _=>false
theorem NH:Wt 1 [[2,1]] [1/2]=true:=by decide +kernel
end Nt
end
section
open Go.RowKit Go.Shelf
namespace Nt
def vq (x:Raw):Rat:=mkRat (sg x.1 (val x.2.1)) (val x.2.2)
theorem H9 (q:Rat):vq (rq q)=q:=by
 show mkRat (sg (decide (q.num<0)) (val (T (some q.num.natAbs)))) (val (T (some q.den)))=q
 have h:∀n,val (T (some n))=n:=fun n=>AZ n;rw[h,h,Ck];exact Rat.mkRat_self q
theorem EF {x:Raw} (h:DA x=true):rq (vq x)=x/\OkQ (vq x):=by
 obtain⟨q,hq,h1,h2,h3⟩:=KF h
 have e:x=rq q:=by
  obtain⟨a,b,c⟩:=x;simp only[rq];simp only at h1 h2 h3;rw[h1,h2,h3]
 rw[e,H9];exact⟨rfl,hq⟩
theorem NI {q:Rat} (h:OkQ q):DA (rq q)=true:=AP h
def GZ (A:List (List Raw)) (b:List Raw):Mx:=fun i j=>if j=b.length then vq (b.getD i zraw) else vq ((A.getD i []).getD j zraw)
def BA (la:List RowH):List (List Raw):=la.map (·.2.2)
theorem CQ (la:List RowH):(BA la).length=la.length:=by simp[BA]
theorem HH (la:List RowH) (i:Nat) (h:i<la.length):(BA la)[i]'(by simpa [BA] using h)=la[i].2.2:=by simp[BA]
def OY (n:Nat) (A:List (List Raw)):Bool:=A.all fun r=>rowOk n r
theorem Gt (n:Nat) (la:List RowH):OY n (BA la)=DF n la:=by
 unfold OY BA DF;rw[List.all_map];rfl
theorem Ja {n:Nat} {l:List Raw}:rowOk n l=true↔l.length=n/\allV l=true:=by
 unfold rowOk;rw[Bool.and_eq_true,decide_eq_true_eq]
theorem KL {n:Nat} {A:List (List Raw)}:OY n A=true↔∀i (h:i<A.length),A[i].length=n/\allV A[i]=true:=by
 unfold OY;rw[List.all_eq_true];constructor
 · intro h i hi;exact Ja.1 (h _ (List.getElem_mem hi))
 · intro h x hx;obtain⟨i,hi,rfl⟩:=List.getElem_of_mem hx;exact Ja.2 (h i hi)
theorem EG {l:List Raw}:allV l=true↔∀i (h:i<l.length),DA l[i]=true:=by
 unfold allV;rw[List.all_eq_true];constructor
 · intro h i hi;exact h _ (List.getElem_mem hi)
 · intro h x hx;obtain⟨i,hi,rfl⟩:=List.getElem_of_mem hx;exact h i hi
def AN (n:Nat) (f:Nat->Rat):List Raw:=(List.range n).map fun i=>rq (f i)
theorem Ag (n:Nat) (f:Nat->Rat):(AN n f).length=n:=by simp[AN]
theorem BB (n:Nat) (f:Nat->Rat) (i:Nat) (h:i<(AN n f).length):(AN n f)[i]=rq (f i):=by simp[AN]
theorem Mw {n:Nat} {f g:Nat->Rat} (h:∀i,i<n->f i=g i):AN n f=AN n g:=by
 unfold AN;exact List.map_congr_left fun i hi=>by rw[h i (List.mem_range.1 hi)]
def DR (A:List (List Raw)) (b:List Raw):Except Int (List Raw) :=
 if A.length=b.length/\allV b=true/\OY b.length A=true then
  (if b.length<=8 then (match A6 SQ b.length b.length (GZ A b) with | .ok M=>.ok (AN b.length fun i=>M i b.length) | .error e=>.error e) else .error 2)
 else .error 1
theorem Eu {w:World} {base:Nat} {v:Value} {n:Nat} {r:Nat->Raw} (h:w.ownsRow base 40 3 v n (AF n r)) :
 ∃A c,v=.slice A n c/\InRow w A ((List.range n).map r):=by
 rcases h.2 with⟨rfl,rfl⟩ | ⟨g,cap,cur,rfl,hb,hg,h4,h5,h6,h7⟩
 · exact⟨none,0,rfl,fun h0=>absurd h0 (by simp)⟩
 · refine⟨some ⟨g,0,none⟩,cap,rfl,fun h0=>⟨g,0,rfl,(Array.getElem?_eq_some_iff.1 hg).1,fun j hj=>?_⟩⟩;have a:j<n:=by simpa using hj
   have hc:=h.cells (g:=g) (by simp[Value.ownBlock]);have d:∀o,(⟨g,0,none⟩:Addr).add o=⟨g,o,none⟩:=fun o=>by unfold Addr.add;split<;>simp_all
   have h0:=CU r a 0 (by omega);have h1:=CU r a 1 (by omega);have h2:=CU r a 2 (by omega);have c0:=hc (j*3+0) _ h0;have c1:=hc (j*3+1) _ h1;have c2:=hc (j*3+2) _ h2;rw[d]at c0 c1 c2;simp only[List.getElem_map,List.getElem_range,Nat.zero_add];exact⟨c0,c1,c2⟩
theorem Ev {α:Type} {l:List α} {d:α} {i:Nat} (h:i<l.length):l.getD i d=l[i]:=by
 rw[List.getD_eq_getElem?_getD,List.getElem?_eq_getElem h,Option.getD_some]
theorem Jb (Aa Ab:Option Addr) (ca cb:Nat) (la:List RowH) (lb:List Raw) (w:World) (hE:Env w) (hs:SysIn w Aa Ab la lb) (h1:la.length=lb.length) (h2:allV lb=true) (h3:DF lb.length la=true) (h8:lb.length<=8) :
 Calls Tryz.prog 56 #[.slice Aa lb.length ca,.slice Ab lb.length cb] w (IY lb.length (GZ (BA la) lb) w):=by
 have hb:=EG.1 h2
 have a:∀i (hi:i<la.length),la[i].2.2.length=lb.length/\allV la[i].2.2=true:=fun i hi=>by
  have d:i<(BA la).length:=by rw[CQ];exact hi
  have:=KL.1 ((Gt lb.length la).trans h3) i d
  rwa [HH la i hi]at this
 have hg:∀i (hi:i<la.length),(BA la).getD i []=la[i].2.2:=fun i hi=>by
  rw[Ev (by rw[CQ];exact hi),HH la i hi]
 refine OX Aa Ab lb.length ca cb la lb (GZ (BA la) lb) w hE h1 rfl hs h2 h3 h8 (fun i hi=>⟨(a i hi).1,fun j hj=>?_⟩) (fun i hi=>?_) (fun i j hi hj=>?_)
 · have h:j≠lb.length:=by have:=(a i hi).1;omega
   unfold GZ;rw[if_neg h,hg i hi,Ev hj];exact(EF (EG.1 (a i hi).2 j hj)).1.symm
 · unfold GZ;rw[if_pos rfl,Ev hi];exact(EF (hb i hi)).1.symm
 · unfold GZ
   by_cases e:j=lb.length
   · rw[if_pos e,Ev hi];exact(EF (hb i hi)).2
   · have d:i<la.length:=by omega
     have h:j<la[i].2.2.length:=by have:=(a i d).1;omega
     rw[if_neg e,hg i d,Ev h];exact(EF (EG.1 (a i d).2 j h)).2
theorem Rx (Aa Ab:Option Addr) (ca cb:Nat) (la:List RowH) (lb xs:List Raw) (w:World) (hE:Env w) (hs:SysIn w Aa Ab la lb) (h:DR (BA la) lb=.ok xs) :
 Calls Tryz.prog 56 #[.slice Aa la.length ca,.slice Ab lb.length cb] w fun e w'=>(∃p c,e=.returned (.tuple #[.slice p xs.length c,.int .i64 0])/\InRow w' p xs)/\Below w.heap.size w w':=by
 unfold DR at h;rw[CQ,Gt]at h
 split at h
 · rename_i hc;obtain⟨h1,h2,h3⟩:=hc
   split at h
   · rename_i h8;have key:=Jb Aa Ab ca cb la lb w hE hs h1 h2 h3 h8;rw[h1];refine key.mono fun e w' ⟨hB,hr⟩=>⟨?_,hB⟩
     rcases hr with⟨M,v,hM,he,a⟩ | ⟨er,hM,he⟩
     · rw[hM]at h;simp only[Except.ok.injEq]at h;obtain⟨p,c,rfl,d⟩:=Eu a;refine⟨p,c,?_,by rw[<-h];exact d⟩;rw[he,<-h,Ag]
     · rw[hM]at h
       cases h
   · cases h
 · cases h
theorem Ry (Aa Ab:Option Addr) (ca cb:Nat) (la:List RowH) (lb:List Raw) (er:Int) (w:World) (hE:Env w) (hs:SysIn w Aa Ab la lb) (h:DR (BA la) lb=.error er) :
 Calls Tryz.prog 56 #[.slice Aa la.length ca,.slice Ab lb.length cb] w fun e w'=>e=.returned (.tuple #[.slice none 0 0,.int .i64 er])/\Below w.heap.size w w':=by
 unfold DR at h;rw[CQ,Gt]at h
 split at h
 · rename_i hc;obtain⟨h1,h2,h3⟩:=hc
   split at h
   · rename_i h8;have key:=Jb Aa Ab ca cb la lb w hE hs h1 h2 h3 h8;rw[h1];refine key.mono fun e w' ⟨hB,hr⟩=>⟨?_,hB⟩
     rcases hr with⟨M,v,hM,he,a⟩ | ⟨d,hM,he⟩
     · rw[hM]at h
       cases h
     · rw[hM]at h;simp only[Except.error.injEq]at h;rw[he,h]
   · rename_i h8;simp only[Except.error.injEq]at h;rw[<-h];exact OS Aa Ab ca cb la lb w hE h1 hs h2 h3 (by omega)
 · rename_i hc;simp only[Except.error.injEq]at h;rw[<-h]
   by_cases h1:la.length=lb.length
   · cases h2:allV lb
     · exact Ro Aa Ab ca cb la lb w hE h1 hs h2
     · cases h3:DF lb.length la
       · exact Rp Aa Ab ca cb la lb w hE h1 hs h2 h3
       · exact absurd ⟨h1,h2,h3⟩ hc
   · exact OR Aa Ab ca cb la lb w h1 hs
end Nt
end
section
open Go.RowKit Go.Shelf
namespace Nt
def InM (n:Nat) (M N:Mx):Prop:=∀i,i<n->∀j,j<=n->M i j=N i j
section
variable {n:Nat} {M N:Mx}
theorem InM.sol (h:InM n M N) (y r:Nat->Rat):Sol n M y r↔Sol n N y r:=by
 have e:∀i,i<n->Ao n (fun j=>M i j*y j)=Ao n (fun j=>N i j*y j):=fun i hi=>Az fun j hj=>by rw[h i hi j (by omega)]
 exact⟨fun k i hi=>(e i hi).symm.trans (k i hi),fun k i hi=>(e i hi).trans (k i hi)⟩
theorem InM.rhs (h:InM n M N) {y:Nat->Rat}:Sol n M y (fun i=>M i n)↔Sol n N y (fun i=>N i n) :=
 ⟨fun k=>((h.sol y _).1 k).congr fun i hi=>h i hi n (Nat.le_refl n),fun k=>((h.sol y _).2 k).congr fun i hi=>(h i hi n (Nat.le_refl n)).symm⟩
end
def ent (A:List (List Raw)) (i j:Nat):Rat:=vq ((A.getD i []).getD j zraw)
def rhs (b:List Raw) (i:Nat):Rat:=vq (b.getD i zraw)
def Vi:Except Int (List Raw)->List Raw
 | .ok l=>l
 | .error _=>[]
def Wu:Except Int (List Raw)->Int
 | .ok _=>0
 | .error e=>e
end Nt
end
section
open Go.RowKit Go.Shelf
namespace Nt
end Nt
end
section
open Go.RowKit Go.Shelf
namespace Nt
theorem InRow.at {W:World} {A:Option Addr} {l:List Raw} (h:InRow W A l) {j:Nat} (hj:j<l.length):∃b o,A=some ⟨b,o,none⟩/\b<W.heap.size/\W.cell? ⟨b,o+j*3,none⟩=some (.bool l[j].1)/\W.cell? ⟨b,o+j*3+1,none⟩=some (.string l[j].2.1)/\W.cell? ⟨b,o+j*3+2,none⟩=some (.string l[j].2.2):=by
 obtain⟨b,o,e,hl,hc⟩:=h (by omega);exact⟨b,o,e,hl,hc j hj⟩
end Nt
end
section
open Go.RowKit Go.Shelf
namespace Nt
theorem KM {q:Rat} (h:OkQ q):E6 (rq q):=by
 have:=AT (AP h);unfold E6 rq;exact⟨by have:=this.1;dsimp only;omega,by have:=this.2;dsimp only;omega⟩
theorem Ec {w w':World} {B:Nat} {t:TypeId} {size:Nat} {v:Value} {n:Nat} {xs:List Value} (h:w.ownsRow B t size v n xs) (hb:Below w.heap.size w w'):w'.ownsRow B t size v n xs :=
 h.kept (row:=none) ⟨hb.os,hb.tape,hb.output,hb.size,fun k hk _=>hb.block k hk⟩ (by cases hv:v.ownBlock<;>simp)
end Nt
end
section
open Go.RowKit Go.Shelf
namespace Nt
theorem My {n k i:Nat} {M M':Mx} (hO:∀a b,a<n->b<=n->OkQ (M a b)) (h:BO SQ n k i M=some M'):∀a b,a<n->b<=n->OkQ (M' a b):=by
 unfold BO at h
 split at h
 · simp only[Option.some.injEq]at h;rw[<-h];exact hO
 · split at h
   · rename_i hs;simp only[Option.some.injEq]at h;rw[<-h];have hk:=(EZ SQ).1 hs;intro a b ha hb;unfold Dz
     split
     · rename_i hc;obtain⟨h1,h2,h3,h4⟩:=hk b hc.2 hb;exact NC (of_decide_eq_true h3) (of_decide_eq_true h4)
     · exact hO a b ha hb
   · cases h
theorem OZ {n k:Nat} {M:Mx} (hO:∀a b,a<n->b<=n->OkQ (M a b)):∀{i:Nat} {M':Mx},i<=n->AM SQ n k i M=some M'->∀a b,a<n->b<=n->OkQ (M' a b):=by
 intro i
 induction i with
 | zero=>intro M' _ h;simp only[AM,Option.some.injEq]at h;rw[<-h];exact hO
 | succ i ih =>
   intro M' hi h;simp only[AM,Option.bind_eq_some_iff]at h;obtain⟨M1,h1,h2⟩:=h;exact My (ih (by omega) h1) h2
theorem KN {n k:Nat} {M M':Mx} (hk:k<n) (hO:∀a b,a<n->b<=n->OkQ (M a b)) (h:Db SQ n k M=.ok M'):∀a b,a<n->b<=n->OkQ (M' a b):=by
 unfold Db at h
 split at h
 · cases h
 · rename_i p hp;obtain⟨p1,p2,p3,_⟩:=F5 (by omega) hp
   have ae:∀a b,a<n->b<=n->OkQ (Bu k p M a b):=fun a b ha hb=>by
    unfold Bu
    split
    · exact hO p b p2 hb
    · split
      · exact hO k b hk hb
      · exact hO a b ha hb
   split at h
   · rename_i hd;have d:=(EY SQ).1 hd;have ad:Bu k p M k k≠0:=by unfold Bu;rw[if_pos rfl];exact p3
     have aa:∀a b,a<n->b<=n->OkQ (Bn k (Bu k p M) a b):=fun a b ha hb=>by
      unfold Bn
      split
      · rename_i hc;obtain⟨h1,h2⟩:=d b hc.2 hb;exact ND (of_decide_eq_true h1) (of_decide_eq_true h2) ad
      · exact ae a b ha hb
     split at h
     · rename_i M2 h2;simp only[Except.ok.injEq]at h;rw[<-h];exact OZ aa (Nat.le_refl n) h2
     · cases h
   · cases h
end Nt
end
section
open Go.RowKit Go.Shelf
namespace Nt
def Apart (u v:Value):Prop:=∀b,u.ownBlock=some b->v.ownBlock≠some b
theorem Apart.symm {u v:Value} (h:Apart u v):Apart v u:=fun b h1 h2=>h b h2 h1
section
variable {w w':World} {base:Nat} {e:TypeId} {size:Nat} {u v v':Value} {n:Nat} {xs:List Value}
theorem BN {P:Program} (t ty e:TypeId) (i:TypeInfo) (z:Value) (size bytes:Nat) (ht:P.underlying t=some (.slice e)) (hi:P.info? e=some i) (hz:i.zero=some z)
 (af:i.size=size) (aj:i.bytes=bytes) (v:Value) (n:Nat) (xs:List Value) (aa:w.ownsRow base e size v n xs)
 (a:Addr) (m c:Nat) (news:List Value) (hl:news.length=m*size) (d:∀j u,news[j]? = some u->w.cell? (a.add j)=some u) (h1:∀u∈news,u.oneCell'=true) (hm:0<m)
 (ai:n+m<=maxLen) (h:(n+m)*bytes<=140737488355328) {v':Value} {w':World} (hr:(Builtin.append_ #[t,t] ty #[v,.slice (some a) m c]).run P w=.ok v' w') :
 v'.ownBlock=v.ownBlock∨v'.ownBlock=some w.heap.size:=by
 subst af;subst aj;have ah:n+m<=9223372036854775807:=by simp only[maxLen]at ai;omega
 rcases aa.2 with⟨rfl,rfl⟩ | ⟨g,cap,cur,rfl,_,hg,_,al,ak,_⟩
 · have ad:=run_append_nil (P:=P) w t ty e i z ht hi hz a m c news hl d (by omega) (by omega) (by have hb:=h;simp only[Nat.zero_add]at hb;omega);rw[ad]at hr;simp only[Result.ok.injEq]at hr;rw[<-hr.1];exact .inr rfl
 · by_cases hroom:n+m<=cap
   · have ag:n*i.size+news.length<=cur.size:=by rw[hl,ak,<-Nat.add_mul];exact Nat.mul_le_mul_right _ hroom
     have ad:=run_append_room (P:=P) w t ty e i ht hi g n cap cur hg a m c news hl d h1 hroom ag;rw[ad]at hr;simp only[Result.ok.injEq]at hr;rw[<-hr.1];exact .inl rfl
   · have ae:∀j u,xs[j]? = some u->w.cell? ((⟨g,0,none⟩:Addr).add j)=some u:=aa.cells (g:=g) rfl;have ad:=run_append_grow (P:=P) w t ty e i z ht hi hz ⟨g,0,none⟩ n cap xs aa.1 ae a m c news hl d (by omega) (by omega) (growslice_fits (by omega) h);rw[ad]at hr;simp only[Result.ok.injEq]at hr;rw[<-hr.1];exact .inr rfl
end
theorem wpList_append_new {P:Program} (w:World) {ops:Array Oper} {rest:List Oper} {o:Oper} {a:Act} {Q:Exit->Act->World->Prop} (aj:o.guard=none) (s x:Operand) (t:TypeId)
 (ho:o.op=.call { callee:=.builtin .append,args:=#[s,x],argTypes:=#[t,t] })
 (base:Nat) (e:TypeId) (i:TypeInfo) (z:Value) (size bytes:Nat) (ht:P.underlying t=some (.slice e)) (hi:P.info? e=some i) (hz:i.zero=some z)
 (ae:i.size=size) (ai:i.bytes=bytes) (al:z.cells.size=size) (ak:0<size)
 (v:Value) (n:Nat) (xs:List Value) (hs:a.eval s=v) (af:w.ownsRow base e size v n xs)
 (ad:Addr) (m c:Nat) (news:List Value) (hx:a.eval x=.slice (some ad) m c) (hl:news.length=m*size) (aa:∀j u,news[j]? = some u->w.cell? (ad.add j)=some u) (h1:∀u∈news,u.oneCell'=true) (hm:0<m)
 (ah:n+m<=maxLen) (d:(n+m)*bytes<=140737488355328) (ag:base<=w.heap.size)
 (h:∀v' w',w'.ownsRow base e size v' (n+m) (xs++news)->w.grownBy w' v.ownBlock->(v'.ownBlock=v.ownBlock∨v'.ownBlock=some w.heap.size)->wpList P ops Q rest (a.put o.dst v') w'):wpList P ops Q (o::rest) a w :=
 wpList_plain aj fun _ hK=>by
  obtain⟨v',w',hr,h2,h3,_⟩:=run_append_own (P:=P) w base t o.type e i z size bytes ht hi hz ae ai al ak v n xs af ad m c news hl aa h1 ah d ag;have h5:=BN (P:=P) t o.type e i z size bytes ht hi hz ae ai v n xs af ad m c news hl aa h1 hm ah d hr;unfold Oper.wp execOp;simp only[ho,resolve,invoke,builtin,Sem.run_bind,Sem.run_pure,Result.andThen_ok,List.map_toArray,List.map_cons,List.map_nil,hs,hx,hr];exact hK _ _ (h v' w' h2 h3 h5)
theorem Bg (v:Value) (h:v.oneCell'=true):∀u∈[v],u.oneCell'=true:=fun u hu=>by rw[List.mem_singleton.1 hu];exact h
theorem Cx (w:World) (v:Value) (t:TypeId):∀j u,[v][j]? = some u->(w.alloc (.cells #[v] t)).cell? (Addr.add ⟨w.heap.size,0,none⟩ j)=some u:=by
 intro j u hj
 match j,hj with
 | 0,hj=>simp at hj;subst hj;simp[Addr.add]
 | j+1,hj=>simp at hj
end Nt
end
section
open Go.RowKit Go.Shelf
namespace Nt
def hdr (x:RowH):Value:=.slice x.1 x.2.2.length x.2.1
def Rz:RowH:=(none,0,[])
structure Qd (W:World) (B n:Nat) (la:List RowH) (lb:List Raw) (y7 y9 y8 z:Nat) (v7 v8 v9 v11:Value) (R:Nat->Value):Prop where
 o7:W.ownsRow B 27 1 v7 y7 ((List.range y7).map fun i=>hdr (la.getD (n-1-i) Rz))
 o9:W.ownsRow B 40 3 v9 y9 (AF y9 fun i=>lb.getD (n-1-i) zraw)
 o8:W.ownsRow B 27 1 v8 y8 ((List.range y8).map R)
 oR:∀i,i<y8->W.ownsRow B 40 3 (R i) n (AF n fun j=>(la.getD i Rz).2.2.getD (n-1-j) zraw)
 o11:W.ownsRow B 40 3 v11 z (AF z fun j=>(la.getD y8 Rz).2.2.getD (n-1-j) zraw)
 a78:Apart v7 v8
 a79:Apart v7 v9
 a89:Apart v8 v9
 a17:Apart v11 v7
 a18:Apart v11 v8
 a19:Apart v11 v9
 r7:∀i,i<y8->Apart (R i) v7
 r8:∀i,i<y8->Apart (R i) v8
 r9:∀i,i<y8->Apart (R i) v9
 r1:∀i,i<y8->Apart (R i) v11
section
variable {W W':World} {B n:Nat} {la:List RowH} {lb:List Raw} {y7 y9 y8 z:Nat} {v7 v8 v9 v11 v':Value} {R:Nat->Value}
theorem Qd.below (h:Qd W B n la lb y7 y9 y8 z v7 v8 v9 v11 R) (hb:Below W.heap.size W W'):Qd W' B n la lb y7 y9 y8 z v7 v8 v9 v11 R :=
 ⟨Ec h.o7 hb,Ec h.o9 hb,Ec h.o8 hb,fun i hi=>Ec (h.oR i hi) hb,Ec h.o11 hb,h.a78,h.a79,h.a89,h.a17,h.a18,h.a19,h.r7,h.r8,h.r9,h.r1⟩
theorem Qd.alloc (h:Qd W B n la lb y7 y9 y8 z v7 v8 v9 v11 R) (o:Obj):Qd (W.alloc o) B n la lb y7 y9 y8 z v7 v8 v9 v11 R:=h.below ((Below.refl _ W).alloc (Nat.le_refl _) o)
end
theorem inMat_of_own {w:World} {base:Nat} {v:Value} {L:List RowH} (h:w.ownsRow base 27 1 v L.length (L.map hdr)) (hr:∀x∈L,InRow w x.1 x.2.2) :
 ∃A c,v=.slice A L.length c/\InMat w A L:=by
 rcases h.2 with⟨rfl,h0⟩ | ⟨g,cap,cur,rfl,hb,hg,h4,h5,h6,h7⟩
 · exact⟨none,0,by rw[h0],fun h=>absurd h (by omega)⟩
 · refine⟨some ⟨g,0,none⟩,cap,rfl,fun h0=>⟨g,0,rfl,(Array.getElem?_eq_some_iff.1 hg).1,fun j hj=>?_⟩⟩;have hc:=h.cells (g:=g) (by simp[Value.ownBlock]) j (hdr L[j]) (by simp[hj]);have a:∀o,(⟨g,0,none⟩:Addr).add o=⟨g,o,none⟩:=fun o=>by unfold Addr.add;split<;>simp_all
   rw[a]at hc;rw[Nat.zero_add];exact⟨hc,hr _ (List.getElem_mem hj)⟩
theorem TJ (Aa Ab:Option Addr) (ca cb:Nat) (la:List RowH) (lb:List Raw) (w:World) (hE:Env w) (hs:SysIn w Aa Ab la lb) :
 Calls Tryz.prog 56 #[.slice Aa la.length ca,.slice Ab lb.length cb] w fun e w'=>(∃p c,e=.returned (.tuple #[.slice p (Vi (DR (BA la) lb)).length c,.int .i64 (Wu (DR (BA la) lb))])/\InRow w' p (Vi (DR (BA la) lb)))/\Below w.heap.size w w':=by
 cases h:DR (BA la) lb with
 | ok xs=>exact Rx Aa Ab ca cb la lb xs w hE hs h
 | error er=>exact(Ry Aa Ab ca cb la lb er w hE hs h).mono fun e w' h=>⟨⟨none,0,h.1,fun h=>absurd h (by simp[Vi])⟩,h.2⟩
end Nt
end
section
open Go.RowKit Go.Shelf
namespace Nt
theorem EH {W:World} {base:Nat} {e:TypeId} {size:Nat} {v:Value} {n:Nat} {xs:List Value} (h:W.ownsRow base e size v n xs) (hn:0<n) :
 ∃g cap,v=.slice (some ⟨g,0,none⟩) n cap/\base<=g/\g<W.heap.size/\(∀j,W.frozen? ⟨g,j,none⟩=false)/\∀j u,xs[j]? = some u->W.cell? ⟨g,j,none⟩=some u:=by
 rcases h.2 with⟨rfl,h0⟩ | ⟨g,cap,cur,rfl,hb,hg,_⟩
 · omega
 · refine⟨g,cap,rfl,hb,(Array.getElem?_eq_some_iff.1 hg).1,fun j=>by simp[World.frozen?,hg],fun j u hj=>?_⟩;have hc:=h.cells (g:=g) (by simp[Value.ownBlock]) j u hj;have a:∀o,(⟨g,0,none⟩:Addr).add o=⟨g,o,none⟩:=fun o=>by unfold Addr.add;split<;>simp_all
   rwa [a]at hc
theorem TK {W:World} {base:Nat} {e:TypeId} {size n:Nat} {xs:List Value} {u v:Value} {g i:Nat} (h:W.ownsRow base e size u n xs) (ha:u.ownBlock≠some g) :
 (W.setCell ⟨g,i,none⟩ v).ownsRow base e size u n xs :=
 h.kept (row:=some g) ⟨rfl,rfl,rfl,by simp,fun k _ hk=>Below.heap_setCell _ _ _ _ (fun e=>hk (by rw[e]))⟩ (.inr ha)
theorem Bb {P:Program} (w:World) {o:Oper} {a:Act} {K:Act->World->Prop} {Q:Exit->Act->World->Prop} (s x:Operand) (t:TypeId)
 (ho:o.op=.call { callee:=.builtin .append,args:=#[s,x],argTypes:=#[t,t] })
 (base:Nat) (e:TypeId) (i:TypeInfo) (z:Value) (size bytes:Nat) (ht:P.underlying t=some (.slice e)) (hi:P.info? e=some i) (hz:i.zero=some z)
 (ae:i.size=size) (ai:i.bytes=bytes) (ak:z.cells.size=size) (aj:0<size)
 (v:Value) (n:Nat) (xs:List Value) (hs:a.eval s=v) (af:w.ownsRow base e size v n xs)
 (ad:Addr) (m c:Nat) (news:List Value) (hx:a.eval x=.slice (some ad) m c) (hl:news.length=m*size) (aa:∀j u,news[j]? = some u->w.cell? (ad.add j)=some u) (h1:∀u∈news,u.oneCell'=true) (hm:0<m)
 (ah:n+m<=maxLen) (d:(n+m)*bytes<=140737488355328) (ag:base<=w.heap.size)
 (h:∀v' w',w'.ownsRow base e size v' (n+m) (xs++news)->w.grownBy w' v.ownBlock->(v'.ownBlock=v.ownBlock∨v'.ownBlock=some w.heap.size)->K (a.put o.dst v') w'):o.wp P a w K Q:=by
 obtain⟨v',w',hr,h2,h3,_⟩:=run_append_own (P:=P) w base t o.type e i z size bytes ht hi hz ae ai ak aj v n xs af ad m c news hl aa h1 ah d ag;have h5:=BN (P:=P) t o.type e i z size bytes ht hi hz ae ai v n xs af ad m c news hl aa h1 hm ah d hr;unfold Oper.wp execOp;simp only[ho,resolve,invoke,builtin,Sem.run_bind,Sem.run_pure,Result.andThen_ok,List.map_toArray,List.map_cons,List.map_nil,hs,hx,hr];exact h v' w' h2 h3 h5
end Nt
end
section
open Go.ChangeShapes Go.WideShapes Go.ChangeAt Go.RowKit Go.Shelf Go.Joins Go.Deep
namespace Nt
def qD {H:Type} (x:Raw):DataW H:=.agg [.lit (.bool x.1),.lit (.string x.2.1.data.toList),.lit (.string x.2.2.data.toList)]
def Mz {H:Type} (l:List Raw) (d:DataW H):Prop:=(d=.nil/\l=[])∨∃rest,d=.slice (l.map qD) rest
section
variable {H:Type} {enc:TypeId×Value->H} {w:World} {base:Nat} {held:Bool}
theorem R4 {b o k:Nat}:(⟨b,o,none⟩:Addr).add k=⟨b,o+k,none⟩:=by unfold Addr.add;split<;>simp_all
theorem TL {fuel:Nat} {cs:List Value} {x:DataW H×List MemPlace} (h:DataW.trod enc Tryz.prog w base (fun _=>true) held fuel 27 cs=some x) :
 ∃(A:Option Addr) (cap:Nat) (l:List Raw),cs=[.slice A l.length cap]/\Mz l x.1/\InRow w A l:=by
 rcases open_slice Tryz.underlying27 h with⟨h1,h2⟩ | ⟨a,len,cap,m,n,D,Pl,ae,hb,hl,hm,aa,hx,hi⟩
 · exact⟨none,0,[],h1,.inl ⟨by rw[h2],rfl⟩,fun h=>absurd h (by simp)⟩
 · simp only[if_true]at aa;subst aa
   have each:∀i,i<m->∃y:Raw,D i=qD y/\w.cell? (a.add (i*3))=some (.bool y.1)/\w.cell? (a.add (i*3+1))=some (.string y.2.1)/\w.cell? (a.add (i*3+2))=some (.string y.2.2):=by
    intro i ag;obtain⟨cs',hc,ai⟩:=hi i ag;rw[T1]at hc;obtain⟨y0,y1,y2,n',hy,_,t0,t1,t2⟩:=trod_struct3 Tryz.underlying40 ai;obtain⟨_,ad,d⟩:=World.cells?_some hc
    match cs',ad with
    | [c0,c1,c2],_ =>
      have g0:=d 0 (by omega);have g1:=d 1 (by omega);have g2:=d 2 (by omega);rw[Go.Deep.add_add]at g0 g1 g2;obtain⟨g,e0,k0⟩:=DataW.trod_bool Tryz.underlying4 t0;obtain⟨s1,e1,k1,_⟩:=DataW.trod_string Tryz.underlying9 t1;obtain⟨s2,e2,k2,_⟩:=DataW.trod_string Tryz.underlying9 t2;simp only[Prod.mk.injEq]at hy;have b0:c0=.bool g:=by simpa [show Tryz.prog.cellsOf 4=1 by kernel_rfl,show Tryz.prog.cellsOf 9=1 by kernel_rfl] using e0
      have b1:c1=.string s1:=by simpa [show Tryz.prog.cellsOf 4=1 by kernel_rfl,show Tryz.prog.cellsOf 9=1 by kernel_rfl] using e1
      have b2:c2=.string s2:=by simpa [show Tryz.prog.cellsOf 4=1 by kernel_rfl,show Tryz.prog.cellsOf 9=1 by kernel_rfl] using e2
      subst b0 b1 b2;refine⟨(g,s1,s2),?_,?_,?_,?_⟩
      · rw[hy.1,k0,k1,k2];rfl
      · simpa using g0
      · simpa using g1
      · simpa using g2
   obtain⟨Y,hY⟩:=choose_lt each;refine⟨some a,m,(List.range len).map Y,by simpa using ae,.inr ⟨_,by rw[hx,List.map_map];simp only[];congr 1;exact List.map_congr_left fun i af=>(hY i (by have:=List.mem_range.1 af;omega)).1⟩,fun h0=>?_⟩;simp only[List.length_map,List.length_range]at h0;have ah:=World.cell?_spot (hY 0 (by omega)).2.1;obtain⟨b,o,s⟩:=a;have hs:s=none:=by simpa [Addr.add] using ah
   subst hs;refine⟨b,o,rfl,?_,fun j hj=>?_⟩
   · have:=World.block_lt_of_cell? w _ (hY 0 (by omega)).2.1
     simpa [R4] using this
   · have aj:j<len:=by simpa using hj
     obtain⟨_,k0,k1,k2⟩:=hY j (by omega);rw[R4]at k0 k1 k2;simp only[List.getElem_map,List.getElem_range];exact⟨k0,k1,k2⟩
end
section
variable {H:Type}
theorem Dy {P:Program} {e:TypeId} {d:DataW H}:∀{l:List (DataW H)},d∈l->∀m∈d.weights P e,m∈DataW.weightsAll P e l:=by
 intro l
 induction l with
 | nil=>intro h;cases h
 | cons a l ih =>
   intro h m hm;rw[DataW.weightsAll,List.mem_append]
   rcases List.mem_cons.1 h with rfl | h
   · exact .inl hm
   · exact .inr (ih h m hm)
theorem R7 {l:List Raw} {d:DataW H} (h:Mz l d) (hw:∀m∈d.weights Tryz.prog 27,m<=140737488351232):l.length<=140737488355328/\∀x∈l,E6 x:=by
 rcases h with⟨_,rfl⟩ | ⟨rest,rfl⟩
 · exact⟨by simp,fun x h=>absurd h (by simp)⟩
 · have e:(DataW.slice (l.map qD) rest).weights Tryz.prog 27=((l.map (qD (H:=H))).length+rest.length)*Tryz.prog.bytesOf 40::(DataW.weightsAll Tryz.prog 40 (l.map (qD (H:=H)))++DataW.weightsAll Tryz.prog 40 rest):=by
    simp[DataW.weights,Tryz.underlying27]
   rw[e]at hw;have h1:=hw _ (List.mem_cons_self ..);rw[show Tryz.prog.bytesOf 40=40 by kernel_rfl,List.length_map]at h1;refine⟨by omega,fun x hx=>?_⟩;have hm:=Dy (P:=Tryz.prog) (e:=40) (List.mem_map_of_mem (f:=qD (H:=H)) hx)
   have z:∀s:ByteArray,s.data.toList.length∈(qD (H:=H) x).weights Tryz.prog 40->s.size<=140737488355328:=fun s hs=>by
    have:=hw _ (List.mem_cons_of_mem _ (List.mem_append_left _ (hm _ hs)));have z1:s.size=s.data.toList.length:=Lib.size_eq _;omega
   exact⟨z _ (by simp[qD,DataW.weights,DataW.weightsEach,Tryz.underlying40]),z _ (by simp[qD,DataW.weights,DataW.weightsEach,Tryz.underlying40])⟩
theorem CP {enc:TypeId×Value->H} {P:Program} {W W':World} {base:Nat} {sp':Nat->Bool} (hl:laidOutB P=true):∀{ts:List TypeId} {vs:List Value} {ds:List (DataW H)} {ps:List MemPlace},
 (∀t∈ts,P.readableRec t=true/\t<P.types.size)->DataW.TrodAll enc P W base (fun _=>true) true ts vs ds ps->(∀p∈ps,W.sameAt W' p)->(∀p∈ps,sp' p.block=true)->DataW.TrodAll enc P W' base sp' true ts vs ds ps
 | [],[],[],_,_,h,_,_=>h
 | _ :: _,_::_,_::_,_,hT,⟨p,q,h1,h2,e⟩,hs,hb =>
   ⟨p,q,WideElems.Trod_stays hl (hT _ (List.mem_cons.2 (.inl rfl))).1 (hT _ (List.mem_cons.2 (.inl rfl))).2 h1 (fun x hx=>hs x (by rw[e];exact List.mem_append_left _ hx)) (fun x hx=>hb x (by rw[e];exact List.mem_append_left _ hx)),
     CP hl (fun t ht=>hT t (List.mem_cons.2 (.inr ht))) h2 (fun x hx=>hs x (by rw[e];exact List.mem_append_right _ hx)) (fun x hx=>hb x (by rw[e];exact List.mem_append_right _ hx)),e⟩
end
section
variable {H:Type} {enc:TypeId×Value->H} {w:World} {base:Nat} {held:Bool}
theorem FM {ts:List TypeId} {ds:List (DataW H)} {j:Nat} {t:TypeId} {d:DataW H} (a:(DataW.weightsEach Tryz.prog ts ds).all (·<=reachBytes)=true) (ht:ts[j]? = some t) (hd:ds[j]? = some d):∀m∈d.weights Tryz.prog t,m<=140737488351232:=fun m hm =>
 of_decide_eq_true (List.all_eq_true.1 a _ (DataW.weights_mem_each (P:=Tryz.prog) ht hd m hm))
end
end Nt
end
section
open Go.RowKit Go.Shelf
namespace Bd
open Nt Ci
def Bc (m d:Nat):Nat:=m*(d/Nat.gcd m d)
def Ew:Nat->List Raw->Bool
 | _,[]=>true
 | m,x::t=>DA x&&(!x.1&&(decide (x.2.1.size<=65)&&(decide (x.2.2.size<=65)&&(decide ((T (some (Bc m (vq x).den))).size<=65)&&Ew (Bc m (vq x).den) t))))
theorem Gu (m:Nat) (x:Raw) (t:List Raw):Ew m (x::t)=(DA x&&(!x.1&&(decide (x.2.1.size<=65)&&(decide (x.2.2.size<=65)&&(decide ((T (some (Bc m (vq x).den))).size<=65)&&Ew (Bc m (vq x).den) t))))):=rfl
def Cg (l:List Raw):Bool:=Ew 1 l
theorem Cr {n k:Nat} (hk:0<k):(T (some n)).size<=k↔n<10^k:=by
 have e:(T (some n)).size=(Lib.decDigits n).length:=by rw[Lib.size_eq];rfl
 rw[e];exact AL n k hk
theorem JI:10^65*10^65<=Lim:=by
 rw[<-Nat.pow_add];exact Nat.pow_le_pow_right (by decide) (by rw[C9];decide)
theorem Gv {m d:Nat} (hm:0<m) (hd:0<d):0<Bc m d :=
 Nat.mul_pos hm (Nat.div_pos (Nat.le_of_dvd hd (Nat.gcd_dvd_right m d)) (Nat.gcd_pos_of_pos_right m hd))
theorem KO (A:Option Addr) (ca:Nat) (l:List Raw) (w:World) (hE:Env w) (hl:InRow w A l) (aM:l.length<=140737488355328) (ay:∀k (h:k<l.length),l[k].2.1.size<=140737488355328/\l[k].2.2.size<=140737488355328) :
 Calls Tryz.prog 38 #[.slice A l.length ca] w fun e w'=>e=.returned (.bool (Cg l))/\Below w.heap.size w w':=by
 have az:Hid (Below w.heap.size w w):=Below.refl _ _;have aq:Hid (Cg l=Ew 1 (l.drop 0)):=rfl;have aF:Hid (0<1/\1<10^65):=⟨by decide,Nat.one_lt_pow (by decide) (by decide)⟩;replace hE:=zh hE;replace hl:=zh hl;replace ay:=zh ay;generalize Cg l=fin at aq ⊢;have aB:Value.string ⟨#[49]⟩=.string (T (some 1)):=by kernel_rfl
 go_enter Tryz.func38,Tryz.ntmps38;go_wp2
 go_loopw [3,13] (fun mv ix wr=>∃(k m:Nat),k<=l.length/\ix=.int .i64 (k:Int)/\mv=.string (T (some m))/\Hid (fin=Ew m (l.drop k))/\Hid (0<m/\m<10^65)/\Hid (Below w.heap.size w wr)) (fun _ ix _=>l.length-(intOf ix).toNat)
 case atStart=>exact⟨0,1,Nat.zero_le _,rfl,aB,aq,aF,az⟩
 case round =>
  clear aq aF az aB;obtain⟨k,m,hk,rfl,rfl,hI,hm,hB⟩:=hrel;obtain⟨wz,rfl⟩:∃z,z=wr:=⟨_,rfl⟩;have j0:(0:Int)<=(k:Int):=by omega
  by_cases hlt:k<l.length
  · have j1 : (k:Int)<(l.length:Int):=by omega
    obtain⟨b,o,rfl,aJ,hc⟩:=(hl.out.below hB.out (Nat.le_refl _)) (by omega);obtain⟨e0,e1,e2⟩:=hc k hlt;have hs:=ay.out k hlt;have hdr:l.drop k=l[k]::l.drop (k+1):=List.drop_eq_getElem_cons hlt;rw[hdr]at hI;have aL:∀x:Raw,DA x=Ax x.1 x.2.1 x.2.2:=fun _=>rfl;obtain⟨x,hx⟩:∃x,x=l[k]:=⟨_,rfl⟩;rw[<-hx]at e0 e1 e2 hs hI;obtain⟨gg,nn,dd⟩:=x;dsimp only at e0 e1 e2 hs;obtain⟨vb,an⟩:∃r,r=Ax gg nn dd:=⟨_,rfl⟩;have ae:Hid (DA (gg,nn,dd)=vb):=an.symm;have kv:Hid (∀W,Env W->Calls Tryz.prog 83 #[.agg #[.bool gg,.string nn,.string dd]] W fun e w'=>e=.returned (.bool vb)/\Below W.heap.size W w'):=fun W hW=>by rw[an];exact AO gg nn dd W hW hs.1 hs.2
    have ah:Hid (Below w.heap.size w (wz.alloc (.cells #[.bool gg,.string nn,.string dd] 40))):=hB.out.alloc hB.out.size _;have aC:Hid (Bk (wz.alloc (.cells #[.bool gg,.string nn,.string dd] 40)) wz.heap.size 40 [.bool gg,.string nn,.string dd]):=Bk.new _ _ _;have aH:=zh (kv.out _ (hE.out.below ah.out));replace an:=zh an;replace hx:=zh hx;replace hs:=zh hs;clear hc hdr aL kv
    go_wp2_with fail
    refine aH.out.mono ?_;rintro e w2 ⟨rfl,hb⟩;have a:=zh (ah.out.trans (hb.mono ah.out.size));have d:=zh (aC.out.below hb);clear hb ah aC aH e0 e1 e2 aJ hB;have u0:=d.out.c0;have u1:=d.out.c1;have u2:=d.out.c2;have u9:=d.out.lt
    cases vb with
    | false =>
      have hf:fin=false:=by rw[hI.out];unfold Ew;rw[ae.out];rfl
      subst hf;go_wp2;go_ret;exact⟨rfl,a.out⟩
    | true =>
      cases gg with
      | true =>
        have hf:fin=false:=by rw[hI.out];unfold Ew;rw[ae.out];rfl
        subst hf;go_wp2;go_ret;exact⟨rfl,a.out⟩
      | false =>
        have hq:=EF (x:=(false,nn,dd)) (by exact ae.out);obtain⟨q,am⟩:∃q,q=vq (false,nn,dd):=⟨_,rfl⟩;rw[<-am]at hq;have ad:dd=T (some q.den):=(congrArg (·.2.2) hq.1).symm;have aa:q.den<Lim:=hq.2.2
        have ar:Hid (fin=(decide (nn.size<=65)&&(decide (dd.size<=65)&&(decide ((T (some (Bc m q.den))).size<=65)&&Ew (Bc m q.den) (l.drop (k+1)))))):=by
         rw[hI.out,Gu,ae.out,<-am,Bool.true_and];exact Bool.true_and _
        have aG:Hid (0<q.den):=q.den_pos;replace hq:=zh hq;replace am:=zh am;clear hI ae
        by_cases h1:65<nn.size∨65<dd.size
        · have hf:fin=false:=by
           rw[ar.out]
           rcases h1 with h | h
           · rw[decide_eq_false (by omega)];rfl
           · rw[decide_eq_false (p:=dd.size<=65) (by omega)];simp
          subst hf;have m1:decide ((65:Int)<max (nn.size:Int) (dd.size:Int))=true:=decide_eq_true (by omega);have m2:decide (65<max nn.size dd.size)=true:=decide_eq_true (by omega);replace h1:=zh h1;replace ad:=zh ad;go_wp2;go_ret;exact⟨rfl,a.out⟩
        · have m1:decide ((65:Int)<max (nn.size:Int) (dd.size:Int))=false:=decide_eq_false (by omega);have m2:decide (65<max nn.size dd.size)=false:=decide_eq_false (by omega)
          have ak:Hid (fin=(decide ((T (some (Bc m q.den))).size<=65)&&Ew (Bc m q.den) (l.drop (k+1)))):=by
           rw[ar.out,decide_eq_true (by omega),decide_eq_true (p:=dd.size<=65) (by omega)];rfl
          have ag:m<Lim:=Nat.lt_of_lt_of_le hm.out.2 (Nat.le_trans (Nat.le_mul_of_pos_right _ (Nat.pow_pos (by decide))) JI);have ao:q.den<10^65:=(Cr (by decide)).1 (by rw[<-ad];omega);have aD:0<Nat.gcd m q.den:=Nat.gcd_pos_of_pos_left _ hm.out.1;obtain⟨gd,af⟩:∃g,g=Nat.gcd m q.den:=⟨_,rfl⟩;have aE:gd<Lim:=by rw[af];exact EW ag aa
          rw[<-af]at aD;have ax:q.den/gd<Lim:=Nat.lt_of_le_of_lt (Nat.div_le_self _ _) aa;have hp:Bc m q.den=m*(q.den/gd):=by unfold Bc;rw[af]
          have al:m*(q.den/gd)<Lim:=Nat.lt_of_lt_of_le (Nat.lt_of_le_of_lt (Nat.mul_le_mul_left _ (Nat.le_trans (Nat.div_le_self _ _) (Nat.le_of_lt ao))) (Nat.mul_lt_mul_of_pos_right hm.out.2 (Nat.pow_pos (by decide)))) JI
          have k1:Hid (∀W,Env W->Calls Tryz.prog 84 #[.string (T (some m)),.string dd] W fun e w'=>e=.returned (.tuple #[.string (T (some gd)),.int .i64 0])/\Below W.heap.size W w'):=fun W hW=>by
           have h:=Q3 (some m) (some q.den) W hW (Ah ag) (Ah aa)
           have e:LN (some m) (some q.den)=some gd/\LO (some m) (some q.den)=0:=by
            have:=EW ag aa;rw[af];exact⟨by simp only[LN,apO,JD,if_pos this],by simp only[LO,apE,if_pos this]⟩
           rw[e.1,e.2,<-ad]at h;exact h
          have k2:Hid (∀W,Env W->Calls Tryz.prog 85 #[.string dd,.string (T (some gd))] W fun e w'=>(∃r,e=.returned (.tuple #[.string (T (some (q.den/gd))),.string r,.int .i64 0]))/\Below W.heap.size W w'):=fun W hW=>by
           have h:=LP (some q.den) (some gd) W hW (Ah aa) (Ah aE)
           have e:Oz (some q.den) (some gd)=some (q.den/gd)/\O0 (some q.den) (some gd)=0:=by
            have:¬gd=0:=by omega
            exact⟨by simp only[Oz,if_neg this],by simp only[O0,if_neg this]⟩
           rw[e.1,e.2,<-ad]at h;exact h.mono fun e w' h=>⟨⟨_,h.1⟩,h.2⟩
          have k3:Hid (∀W,Env W->Calls Tryz.prog 86 #[.string (T (some m)),.string (T (some (q.den/gd)))] W fun e w'=>e=.returned (.tuple #[.string (T (some (Bc m q.den))),.int .i64 0])/\Below W.heap.size W w'):=fun W hW=>by
           have h:=VG (some m) (some (q.den/gd)) W hW (Ah ag) (Ah ax)
           have e:Qz (some m) (some (q.den/gd))=some (Bc m q.den)/\Q0 (some m) (some (q.den/gd))=0:=by
            rw[hp];exact⟨by simp only[Qz,apO,JD,if_pos al],by simp only[Q0,apE,if_pos al]⟩
           rw[e.1,e.2]at h;exact h
          have av:Hid (0<Bc m q.den):=Gv hm.out.1 aG.out;have aw:Hid ((T (some (Bc m q.den))).size<=65->Bc m q.den<10^65):=(Cr (by decide)).1;generalize q.den/gd=qd at k2 k3 hp ax al;generalize Bc m q.den=mm at k3 hp ak av aw;replace h1:=zh h1;clear ad aa aG ag ao aD af aE ax hp al ar
          go_wp2_with fail
          refine(k1.out _ (hE.out.below a.out)).mono ?_;rintro e w3 ⟨rfl,hb⟩;have ai:=zh (a.out.trans (hb.mono a.out.size));have au:=zh (d.out.below hb);clear hb k1 u0 u1 u2 u9 d a;have u2:=au.out.c2;have u9:=au.out.lt
          go_wp2_with fail
          refine(k2.out _ (hE.out.below ai.out)).mono ?_;rintro e w4 ⟨⟨r,rfl⟩,hb⟩;have aj:=zh (ai.out.trans (hb.mono ai.out.size));clear hb k2 u2 u9 au ai
          go_wp2_with fail
          refine(k3.out _ (hE.out.below aj.out)).mono ?_;rintro e w5 ⟨rfl,hb⟩;have aA:=zh (aj.out.trans (hb.mono aj.out.size));clear hb k3 aj
          by_cases h2:65<(T (some mm)).size
          · have m3:decide ((65:Int)<((T (some mm)).size:Int))=true:=decide_eq_true (by omega);have m4:decide (65<(T (some mm)).size)=true:=decide_eq_true h2;have hf:fin=false:=by rw[ak.out,decide_eq_false (by omega)];rfl
            subst hf;replace h2:=zh h2;go_wp2;go_ret;exact⟨rfl,aA.out⟩
          · have m3:decide ((65:Int)<((T (some mm)).size:Int))=false:=decide_eq_false (by omega);have m4:decide (65<(T (some mm)).size)=false:=decide_eq_false h2;have aI:Hid (fin=Ew mm (l.drop (k+1))):=by rw[ak.out,decide_eq_true (by omega)];rfl
            have aK:Hid (0<mm/\mm<10^65):=⟨av.out,aw.out (by omega)⟩;replace h2:=zh h2;clear ak av aw;go_wp2;exact⟨⟨k+1,mm,by omega,by go_num,rfl,aI,aK,aA⟩,by simp only[intOf];omega⟩
  · obtain rfl:k=l.length:=by omega
    have hf:fin=true:=by rw[hI.out,List.drop_length];rfl
    subst hf;go_wp2;go_ret;exact⟨rfl,hB.out⟩
end Bd
end
section
open Go.RowKit
namespace Bd
variable {P:Program} {ops:Array Oper} {Q:Exit->Act->World->Prop} {md:Region.Mode} {S:World->Prop} {l n:Nat}
theorem TM {o:Oper} {a:Act} {w:World} {K:Act->World->Prop} (hd:∀c,o.op≠.defer c) (h:o.wp P a w K Q):o.wpIn (Fence.wide.inRound l) n P a w K Q:=by
 refine⟨fun _ _=>trivial,?_⟩;unfold Oper.wp at h;rw[Fence.inRound_round,Oper.semAt_some l a.eval o hd];have hz:(Fence.wide.inRound l).depth.isSome=true->1<=n:=fun e=>by simp[Fence.wide]at e
 generalize (execOp a.eval o).run P w=r at *
 cases r with
 | ok x w' =>
   cases x with
   | enter f args=>exact⟨hz,CallsIn.inRound l (callsIn_wide.2 h)⟩
   | row r args=>exact⟨hz,fun c cs _=>by obtain⟨v,w2,h1,h2⟩:=h c cs;exact⟨v,w2,h1,stepsIn_wide.2 h2⟩⟩
   | value v=>exact h
   | skip=>exact h
   | defer d=>exact h
   | _=>exact h.elim
 | halt x w'=>cases x<;>first | exact h | exact h.elim
theorem TN {i:Nat} {a:Act} {w:World} {K:Act->World->Prop} (hd:∀(i:Nat) (o:Oper) c,ops[i]? = some o->o.op≠.defer c) (d:¬LetsOut Q) (h:wpOp P ops Q i K a w):wpOpIn (Fence.wide.inRound l) n P ops Q i K a w:=by
 unfold wpOp at h;unfold wpOpIn
 cases ho:ops[i]? with
 | none=>rw[ho]at h;exact h
 | some o =>
   rw[ho]at h;simp only at h ⊢
   split
   · rename_i hw;rw[if_pos hw]at h
     rcases h with h | ⟨_,h⟩
     · exact TM (fun c=>hd i o c ho) h
     · exact absurd h d
   · rename_i hw;rw[if_neg hw]at h;exact⟨fun _ _=>trivial,h⟩
theorem KP (hd:∀(i:Nat) (o:Oper) c,ops[i]? = some o->o.op≠.defer c) (d:¬LetsOut Q):∀(fuel:Nat) (listed:Array Bool) (a:Act) (w:World),wpAny P md ops Q fuel listed a w->wpAnyIn (Fence.wide.inRound l) n P md ops Q fuel listed a w
 | 0,_,_,_,h=>h
 | fuel+1,_,_,_,h=>⟨h.1,fun i hi=>TN hd d (wpOp_mono (fun a' w' h'=>KP hd d fuel _ a' w' h') (h.2 i hi))⟩
def Hg (ops:Array Oper):Bool:=ops.all fun o=>match o.op with | .defer _=>false | _=>true
theorem JJ (h:Hg ops=true):∀(i:Nat) (o:Oper) c,ops[i]? = some o->o.op≠.defer c:=fun i o c hi e=>by
 unfold Hg at h;rw[Array.all_eq_true]at h;obtain⟨a,e2⟩:=Array.getElem?_eq_some_iff.1 hi;have:=h i a;rw[e2,e]at this
 cases this
theorem JK {id:Nat} {a:Act} {w:World} (hm:P.follows .mixedOrders=true) (hd:Hg ops=true) (d:¬LetsOut Q)
 (h:wpAnyH P .any ops Q S ops.size (Array.replicate ops.size false) a { w with drawn:=w.drawn+1 }):(Code.region id ops true).wpIn (Fence.wide.inRound l) n P Q a w :=
 wpIn_region_any hm (KP (JJ hd) d _ _ _ _ (wpAny_of_held _ _ _ _ h))
theorem FQ {id:Nat} {a:Act} {w:World} (hm:P.follows .mixedOrders=true) (hd:Hg ops=true) (d:¬LetsOut Q) (hS:S w.drew)
 (h:S w.drew->wpAnyH P .any ops Q S ops.size (Array.replicate ops.size false) a w.drew):(Code.region id ops true).wpIn (Fence.wide.inRound l) n P Q a w :=
 JK hm hd d (h hS)
theorem B4 {i fuel:Nat} {listed:Array Bool} {a:Act} {w:World} (hs:Region.noSelect ops=true) (hf:Region.free md ops listed i=true) (hr:(Region.ready md ops listed).contains i=true) (hi:(ops[i]?).isSome=true) (hS:S w)
 (h:∀oi,ops[i]? = some oi->∃v,(∀c a w,Q (.panic c) (a.put oi.dst v) w->Q (.panic c) a w)/\YieldsIf P ops S oi v a/\wpAnyH P md ops Q S fuel (listed.setIfInBounds i true) (a.put oi.dst v) w):wpAnyH P md ops Q S (fuel+1) listed a w:=by
 obtain⟨oi,ho⟩:=Option.isSome_iff_exists.1 hi;obtain⟨v,h1,h2,h3⟩:=h oi ho;exact wpAnyH_take ho hs hf hr h1 h2 hS h3
theorem GH {W W':World} (h:Below W.heap.size W W'):KeepsOthers W W':=⟨h.size,fun k o hk _=>by
 have a:=(Array.getElem?_eq_some_iff.1 hk).1;exact(h.block k a).trans hk⟩
def mkD (Ds:List Nat):List Deferred:=Ds.map fun D=>{ target:=.collected D,args:=#[] }
structure Mk (B:Nat) (Ds:List Nat) (W:World):Prop where
 nodup:Ds.Nodup
 at_:∀D,D∈Ds->B<=D/\W.heap[D]? = some (.deferred (some []))
theorem Mk.nil {B:Nat} {W:World}:Mk B [] W:=⟨List.nodup_nil,fun _ h=>by cases h⟩
theorem Mk.lt {B:Nat} {Ds:List Nat} {W:World} (h:Mk B Ds W) {D:Nat} (hD:D∈Ds):D<W.heap.size:=(Array.getElem?_eq_some_iff.1 (h.at_ D hD).2).1
theorem Mk.below {B:Nat} {Ds:List Nat} {W W':World} (h:Mk B Ds W) (hb:Below W.heap.size W W'):Mk B Ds W' :=
 ⟨h.nodup,fun D hD=>⟨(h.at_ D hD).1,(hb.block D (h.lt hD)).trans (h.at_ D hD).2⟩⟩
theorem Mk.cons {B D:Nat} {Ds:List Nat} {W:World} (h:Mk B Ds W) (hB:B<=D) (hD:W.heap[D]? = some (.deferred (some []))) (hn:D∉Ds):Mk B (D::Ds) W :=
 ⟨List.nodup_cons.2 ⟨hn,h.nodup⟩,fun E hE=>by rcases List.mem_cons.1 hE with rfl | hE;(· exact⟨hB,hD⟩);(· exact h.at_ E hE)⟩
theorem Bv {F:Fence} {fn:Func} {tmps:Array Value} {R:Ending->World->Prop} {B:Nat} {w:World} (a:B<=w.heap.size):∀(Ds:List Nat) (W:World),Mk B Ds W->Below B w W ->
 (∀W',Below B w W'->(∀k,k∉Ds->W'.heap[k]? = W.heap[k]?)->LeavesInM F n P fn tmps R [] .returning W')->LeavesInM F n P fn tmps R (mkD Ds) .returning W
 | [],W,_,hb,h=>h W hb fun _ _=>rfl
 | D::Ds,W,hm,hb,h=>by
   have hK:=(hm.at_ D (List.mem_cons_self ..)).2;have hD:=(hm.at_ D (List.mem_cons_self ..)).1;have hn:=List.nodup_cons.1 hm.nodup;refine⟨by simp,.inl ⟨_,_,rfl,run_takeDeferred hK,?_⟩⟩;refine Bv a Ds _ ⟨hn.2,fun E hE=>⟨(hm.at_ E (List.mem_cons_of_mem _ hE)).1,(World.putObj_heap_other (by rintro rfl;exact hn.1 hE)).trans (hm.at_ E (List.mem_cons_of_mem _ hE)).2⟩⟩ (hb.trans ((Below.refl B W).grown (grownBy_putObj' W D _) (by have:=(Array.getElem?_eq_some_iff.1 hK).1;omega) (fun k e=>by cases e;exact hD))) fun W' h1 h2=>h W' h1 fun k hk=>?_;exact(h2 k fun e=>hk (List.mem_cons_of_mem _ e)).trans (World.putObj_heap_other (by rintro rfl;exact hk (List.mem_cons_self ..)))
end Bd
end
section
open Go.RowKit Go.Shelf
attribute [local go_sem] Oper.semAt_some
namespace Bd
open Nt Ci
def lkV (x:Lk):Value:=.agg #[.int .i64 x.1,.int .i64 x.2.1,.bool x.2.2.1,.string x.2.2.2.1,.string x.2.2.2.2]
abbrev E7 (n:Nat):={ i:Nat // i<n }
def Ex (p:Int) (l:List Lk) (k:Nat):List (E7 l.length):=(List.range k).filterMap fun j=>if h:j<l.length then (if l[j].1=p then some ⟨j,h⟩ else none) else none
theorem Jc (p:Int) (l:List Lk) {k:Nat} (h:k<l.length):Ex p l (k+1)=Ex p l k++(if l[k].1=p then [⟨k,h⟩] else []):=by
 unfold Ex;rw[List.range_succ,List.filterMap_append,List.filterMap_cons,List.filterMap_nil,dif_pos h]
 by_cases c:l[k].1=p
 · rw[if_pos c,if_pos c]
 · rw[if_neg c,if_neg c]
theorem Fn (p:Int) (l:List Lk) (k:Nat):(Ex p l k).length<=k:=Nat.le_trans (List.length_filterMap_le _ _) (by rw[List.length_range];exact Nat.le_refl _)
def Kq (n₀ pb:Nat) (W W':World):Prop:=Below n₀ W W'/\W'.heap[pb]? = W.heap[pb]?
theorem Kq.refl {n₀ pb:Nat} (W:World):Kq n₀ pb W W:=⟨Below.refl _ _,rfl⟩
theorem Kq.trans {n₀ pb:Nat} {A B C:World} (h:Kq n₀ pb A B) (k:Kq n₀ pb B C):Kq n₀ pb A C:=⟨h.1.trans k.1,k.2.trans h.2⟩
theorem Kq.alloc {n₀ pb:Nat} {A B:World} (h:Kq n₀ pb A B) (hn:n₀<=B.heap.size) (hp:pb<B.heap.size) (o:Obj):Kq n₀ pb A (B.alloc o):=⟨h.1.alloc hn _,(Below.heap_alloc B o pb hp).trans h.2⟩
theorem Kq.set {n₀ pb:Nat} {A B:World} (h:Kq n₀ pb A B) {a:Addr} (hn:n₀<=a.block) (hp:pb≠a.block) (v:Value):Kq n₀ pb A (B.setCell a v):=⟨h.1.setCell hn v,(Below.heap_setCell B a v pb hp).trans h.2⟩
theorem Kq.below {n₀ pb:Nat} {A B C:World} (h:Kq n₀ pb A B) (hb:Below B.heap.size B C) (hn:n₀<=B.heap.size) (hp:pb<B.heap.size):Kq n₀ pb A C:=⟨h.1.trans (hb.mono hn),(hb.block pb hp).trans h.2⟩
theorem VZ {n₀ pb:Nat} {w:World} (hn:n₀<=w.heap.size) (hp:pb<w.heap.size) (W:World) (l:Nat) (o o':Obj) (hl:w.heap.size<=l) (h:W.heap[l]? = some o) (h1:o.isCells=false) (h2:o.isWalk=false):Kq n₀ pb W (W.putObj l o') :=
 ⟨belowK_b hn W l o o' hl h h1 h2,World.putObj_heap_other (by omega)⟩
theorem KQ (F:Fence) (n:Nat) (hf:F.fn 87) (aw:F.round=none) (hn:1<=n) (s:SR) (Ap Ac Av:Option Addr) (cp cc cv:Nat) (l sb pb n₀:Nat) (p:Int) (J Jx:List (E7 s.cap.length)->World->Prop)
 (W:World) (hJ:AbidesFrom W.heap.size J) (hc:InLk W Ac s.cap) (ax:s.cap.length<=140737488355328) (ar:n₀<=W.heap.size) (af:0<s.cap.length->∀b o,Ac=some ⟨b,o,none⟩->b<n₀) (au:pb<W.heap.size)
 (hS:Bk W sb 25 [.slice Ap s.ps.length cp,.slice Ac s.cap.length cc,.slice Av s.vot.length cv]) (hP:W.cell? ⟨pb,0,none⟩=some (.int .i64 p))
 (hY:∀pre x W1,J pre W1->pre.length<s.cap.length->YieldAt F (n-1) Tryz.prog l #[lkV (s.cap[x.1]'x.2)] W1 fun e W' =>
   (e=.returned (.bool true)/\J (pre++[x]) W'/\Kq n₀ pb W1 W')∨(e=.returned (.bool false)/\Jx (pre++[x]) W'))
 (h0:J [] W) :
 CallsIn F n Tryz.prog 87 #[.func (.yield l) #[] #[],.pointer (some ⟨sb,0,none⟩),.pointer (some ⟨pb,0,none⟩)] W fun e W'=>(∃v,e=.returned v) /\
  ((∃ys,ys=Ex p s.cap s.cap.length/\J ys W')∨(∃pre,(∃k,k<=s.cap.length/\pre=Ex p s.cap k)/\Jx pre W')):=by
 have u0:=hS.c0;have u1:=hS.c1;have u9:=hS.lt;have ai:Hid (J (Ex p s.cap 0) W):=h0;have ag:Hid (Kq n₀ pb W W):=Kq.refl _;replace hc:=zh hc;replace hJ:=zh hJ;replace af:=zh af;replace hY:=zh hY;clear h0;refine callsIn_of_wp Tryz.func87 rfl hf ?_ aw;simp only[Tryz.ntmps87,List.size_toArray,List.length_cons,List.length_nil,Nat.reduceAdd,Nat.reduceSub,Array.replicate_succ,Array.replicate_zero,List.push_toArray,List.append_toArray,List.nil_append,List.cons_append]
 gi_wp2
 gi_loopw [9] (fun i wr=>∃k:Nat,k<=s.cap.length/\i=.int .i64 (k:Int)/\Hid (J (Ex p s.cap k) wr)/\Hid (Kq n₀ pb W wr))
  (fun i _=>s.cap.length-(intOf i).toNat)
 case atStart=>exact⟨0,Nat.zero_le _,rfl,ai,ag⟩
 case round =>
  clear ai ag;obtain⟨k,hk,rfl,aj,d⟩:=hrel;obtain⟨wz,rfl⟩:∃z,z=wr:=⟨_,rfl⟩
  by_cases hlt:k<s.cap.length
  · obtain ⟨b,o,rfl,ao,al⟩:=hc.out (by omega);obtain⟨e0,e1,e2,e3,e4⟩:=al k hlt;have ae:=af.out (by omega) b o rfl;replace e0:=(d.out.1.cell (p:=⟨b,o+k*5,none⟩) ae).trans e0;replace e1:=(d.out.1.cell (p:=⟨b,o+k*5+1,none⟩) ae).trans e1;replace e2:=(d.out.1.cell (p:=⟨b,o+k*5+2,none⟩) ae).trans e2;replace e3:=(d.out.1.cell (p:=⟨b,o+k*5+3,none⟩) ae).trans e3;replace e4:=(d.out.1.cell (p:=⟨b,o+k*5+4,none⟩) ae).trans e4;have ay:=Nat.lt_of_lt_of_le ao d.out.1.size;have aA:wz.cell? ⟨pb,0,none⟩=some (.int .i64 p):=by rw[<-hP];exact World.cell?_of_block (w:=W) d.out.2
    have av:pb<wz.heap.size:=Nat.lt_of_lt_of_le au d.out.1.size;have a:=Jc p s.cap hlt;have az:=Fn p s.cap k;obtain⟨x,hx⟩:∃x,x=s.cap[k]:=⟨_,rfl⟩;rw[<-hx]at e0 e1 e2 e3 e4 a;obtain⟨co,ho,gg,nn,dd⟩:=x;dsimp only at e0 e1 e2 e3 e4 a;have aa:J (Ex p s.cap k) (wz.alloc (.cells #[.int .i64 co,.int .i64 ho,.bool gg,.string nn,.string dd] 59)):=hJ.out _ _ _ none aj.out (World.grownBy_alloc wz _ none) (fun r e=>by cases e);have ah:Hid (Kq n₀ pb W (wz.alloc (.cells #[.int .i64 co,.int .i64 ho,.bool gg,.string nn,.string dd] 59))):=d.out.alloc (Nat.le_trans ar d.out.1.size) av _;have j0:(0:Int)<=(k:Int):=by omega
    have j1:(k:Int)<(s.cap.length:Int):=by omega
    replace hx:=zh hx;clear al
    by_cases hcp:co=p
    · rw [if_pos hcp]at a;have m1:(co==p)=true:=beq_iff_eq.2 hcp;obtain⟨fn,tmps,assign,body,hy,hR⟩:=hY.out _ ⟨k,hlt⟩ _ aa (by omega);dsimp only at hy;rw[<-hx.out]at hy;dsimp only[lkV]at hy;replace a:=zh a;replace hcp:=zh hcp;replace aa:=zh aa
      gi_wp2
      refine hR.mono ?_;rintro e W3 (⟨rfl,an,aq⟩ | ⟨rfl,ak⟩)
      · have ad:Hid (J (Ex p s.cap (k+1)) W3):=by rw[a.out];exact an
        have am:Hid (Kq n₀ pb W W3):=ah.out.trans aq
        gi_wp2
        go_roundw
        case rel=>exact⟨k+1,by omega,by go_num,ad,am⟩
        case measure=>simp[intOf];omega
      · have ad:Hid (Jx (Ex p s.cap (k+1)) W3):=by rw[a.out];exact ak
        gi_wp2
        refine bodyPost_ret (results_none rfl _ _ _) rfl ?_;exact⟨⟨_,rfl⟩,.inr ⟨_,⟨k+1,by omega,rfl⟩,ad.out⟩⟩
    · rw[if_neg hcp,List.append_nil]at a;have m1:(co==p)=false:=by rw[beq_eq_false_iff_ne];exact hcp
      have ad:Hid (J (Ex p s.cap (k+1)) (wz.alloc (.cells #[.int .i64 co,.int .i64 ho,.bool gg,.string nn,.string dd] 59))):=by rw[a];exact aa
      replace a:=zh a;replace hcp:=zh hcp;replace aa:=zh aa
      gi_wp2
      refine⟨fun _ h=>(by cases h),?_⟩
      gi_wp2
      go_roundw
      case rel=>exact⟨k+1,by omega,by go_num,ad,ah⟩
      case measure=>simp[intOf];omega
  · obtain rfl:k=s.cap.length:=by omega
    gi_wp2
    go_end0;exact⟨⟨_,rfl⟩,.inl ⟨_,rfl,aj.out⟩⟩
theorem Fo (F:Fence) (n:Nat) (hf:F.fn 87) (ad:F.round=none) (hn:1<=n) (s:SR) (Ap Ac Av:Option Addr) (cp cc cv:Nat) (sb pb n₀:Nat) (p:Int)
 (w:World) (hc:InLk w Ac s.cap) (d:s.cap.length<=140737488355328) (aa:n₀<=w.heap.size) (h:0<s.cap.length->∀b o,Ac=some ⟨b,o,none⟩->b<n₀) (a:pb<w.heap.size)
 (hS:Bk w sb 25 [.slice Ap s.ps.length cp,.slice Ac s.cap.length cc,.slice Av s.vot.length cv]) (hP:w.cell? ⟨pb,0,none⟩=some (.int .i64 p)) :
 SeqStopsK F n Tryz.prog 87 #[.pointer (some ⟨sb,0,none⟩),.pointer (some ⟨pb,0,none⟩)] (fun x:E7 s.cap.length=>#[lkV (s.cap[x.1]'x.2)]) (Kq n₀ pb) (fun ys=>ys=Ex p s.cap s.cap.length)
  (fun pre=>∃k,k<=s.cap.length/\pre=Ex p s.cap k) s.cap.length w:=fun l J Jx W hW hJ _ hY h0 =>
 KQ F n hf ad hn s Ap Ac Av cp cc cv l sb pb n₀ p J Jx W hJ (hc.below hW) d (Nat.le_trans aa hW.size) h (Nat.lt_of_lt_of_le a hW.size) (hS.below hW) ((hW.cell (p:=⟨pb,0,none⟩) a).trans hP) hY h0
theorem GI (s:SR) (Ap Ac Av:Option Addr) (cp cc cv:Nat) (p:Int) (w:World) :
 Calls Tryz.prog 40 #[.agg #[.slice Ap s.ps.length cp,.slice Ac s.cap.length cc,.slice Av s.vot.length cv],.int .i64 p] w fun e w' =>
  e=.returned (.func (.func 87) #[] #[.pointer (some ⟨w.heap.size,0,none⟩),.pointer (some ⟨w.heap.size+1,0,none⟩)]) /\
  w'=(w.alloc (.cells #[.slice Ap s.ps.length cp,.slice Ac s.cap.length cc,.slice Av s.vot.length cv] 25)).alloc (.cells #[.int .i64 p] 3):=by
 go_enter Tryz.func40,Tryz.ntmps40;go_wp2;go_ret;exact⟨rfl,rfl⟩
end Bd
end
section
open Go.RowKit Go.Shelf
namespace Sh
open Nt Ci
theorem GJ (q:Rat):∃g n d,qv q=.agg #[.bool g,.string n,.string d]:=⟨_,_,_,rfl⟩
theorem R8 (n:Int):ofQ n 1=(n:Rat):=by
 unfold ofQ;rw[show decide ((1:Int)<0)=false from rfl]
 have e:sg (!(decide (n<0)==false)) n.natAbs=n:=by
  have:=Ck n
  cases h:decide (n<0) with
  | true=>rw[h]at this;exact this
  | false=>rw[h]at this;exact this
 rw[e];exact Rat.mkRat_one n
theorem Jd (k:Int) (hk:-10<=k/\k<=10) (w:World) (hE:Env w) :
 Calls Tryz.prog 53 #[.int .i64 k] w fun e w'=>e=.returned (qv (k:Rat))/\Below w.heap.size w w':=by
 obtain⟨g,n,d,hq⟩:=GJ (k:Rat);have aa:Hid (Below w.heap.size w (w.alloc (.cells #[.bool false,.string ⟨#[]⟩,.string ⟨#[]⟩] 40))):=((Below.refl _ w).alloc (Nat.le_refl _) _);have af:Hid (Bk (w.alloc (.cells #[.bool false,.string ⟨#[]⟩,.string ⟨#[]⟩] 40)) (w.heap.size) 40 [.bool false,.string ⟨#[]⟩,.string ⟨#[]⟩]):=by have h:=Bk.new w 40 [.bool false,.string ⟨#[]⟩,.string ⟨#[]⟩]; exact h
 have ko:Hid (Calls Tryz.prog 96 #[.int .i64 k,.int .i64 1] (w.alloc (.cells #[.bool false,.string ⟨#[]⟩,.string ⟨#[]⟩] 40)) fun e w'=>e=.returned (.tuple #[.agg #[.bool g,.string n,.string d],.int .i64 0])/\Below ((w.alloc (.cells #[.bool false,.string ⟨#[]⟩,.string ⟨#[]⟩] 40))).heap.size (w.alloc (.cells #[.bool false,.string ⟨#[]⟩,.string ⟨#[]⟩] 40)) w'):=by have h:=OG k 1 (by omega) (by omega) (by omega) (by omega) (by omega) (w.alloc (.cells #[.bool false,.string ⟨#[]⟩,.string ⟨#[]⟩] 40)) (hE.below aa.out);rw[R8,hq]at h;exact h
 have u1:=hk.1;have u2:=hk.2;replace hE:=zh hE;go_enter Tryz.func53,Tryz.ntmps53
 go_wp2_with fail
 refine ko.out.mono ?_;rintro e w3 ⟨rfl,hb⟩;have ae:=zh (aa.out.trans (hb.mono aa.out.size));have ag:=zh (af.out.below hb);clear hb aa af ko;have ah:Hid (Below w.heap.size w (w3.alloc (.cells #[.bool g,.string n,.string d] 40))):=ae.out.alloc ae.out.size _;have a:=zh (ag.out.alloc (.cells #[.bool g,.string n,.string d] 40));clear ae ag;have aj:Hid (Bk (w3.alloc (.cells #[.bool g,.string n,.string d] 40)) w3.heap.size 40 [.bool g,.string n,.string d]):=Bk.new _ _ _;have r0:=a.out.c0;have r1:=a.out.c1;have r2:=a.out.c2;have r9:=a.out.lt;have ak:=a.out.frozen 0;have al:=a.out.frozen 1;have am:=a.out.frozen 2;have ai:Hid (Below w.heap.size w ((((w3.alloc (.cells #[.bool g,.string n,.string d] 40)).setCell ⟨w.heap.size,0,none⟩ (.bool g)).setCell ⟨w.heap.size,1,none⟩ (.string n)).setCell ⟨w.heap.size,2,none⟩ (.string d))):=(((ah.out.setCell (p:=⟨w.heap.size,0,none⟩) (Nat.le_refl _) _).setCell (p:=⟨w.heap.size,1,none⟩) (Nat.le_refl _) _).setCell (p:=⟨w.heap.size,2,none⟩) (Nat.le_refl _) _);have ad:Hid (Bk ((((w3.alloc (.cells #[.bool g,.string n,.string d] 40)).setCell ⟨w.heap.size,0,none⟩ (.bool g)).setCell ⟨w.heap.size,1,none⟩ (.string n)).setCell ⟨w.heap.size,2,none⟩ (.string d)) (w.heap.size) 40 [.bool g,.string n,.string d]):=(Bk.set (Bk.set (Bk.set a.out 0 (.bool g)) 1 (.string n)) 2 (.string d));go_wp2
 (try simp only[Exit.inBlock,Exit.then])
 have s0:=ad.out.c0;have s1:=ad.out.c1;have s2:=ad.out.c2;have s9:=ad.out.lt;refine bodyPost_ret (v:=.agg #[.bool g,.string n,.string d]) (by simp[results,Tryz.results53,go_sem,s0,s1,s2]) rfl ⟨by rw[hq],ai.out⟩
theorem M7 (s x y:Rat) (hs:ShortQ s) (hx:ShortQ x) (hy:ShortQ y) (ay:ShortQ (x*y)) (w:World) (hE:Env w) :
 Calls Tryz.prog 97 #[qv s,qv x,qv y] w fun e w'=>e=.returned (qv (s+x*y))/\Below w.heap.size w w':=by
 obtain⟨g1,n1,d1,q1⟩:=GJ s;obtain⟨g2,n2,d2,q2⟩:=GJ x;obtain⟨g3,n3,d3,q3⟩:=GJ y;obtain⟨g4,n4,d4,q4⟩:=GJ (x*y);obtain⟨g5,n5,d5,q5⟩:=GJ (s+x*y);have km:Hid (∀W,Env W->Calls Tryz.prog 26 #[.agg #[.bool g2,.string n2,.string d2],.agg #[.bool g3,.string n3,.string d3]] W fun e w'=>e=.returned (.tuple #[.agg #[.bool g4,.string n4,.string d4],.int .i64 0])/\Below W.heap.size W w'):=fun W hW=>by have h:=Do x y hx hy W hW;rw[q2,q3,q4]at h;exact h
 have ka:Hid (∀W,Env W->Calls Tryz.prog 41 #[.agg #[.bool g1,.string n1,.string d1],.agg #[.bool g4,.string n4,.string d4]] W fun e w'=>e=.returned (.tuple #[.agg #[.bool g5,.string n5,.string d5],.int .i64 0])/\Below W.heap.size W w'):=fun W hW=>by have h:=IR s (x*y) hs ay W hW;rw[q1,q4,q5]at h;exact h
 rw[q1,q2,q3,q5];clear q1 q2 q3 q4 q5 hs hx hy ay;have af:Hid (Below w.heap.size w ((((w.alloc (.cells #[.bool g1,.string n1,.string d1] 40)).alloc (.cells #[.bool g2,.string n2,.string d2] 40)).alloc (.cells #[.bool g3,.string n3,.string d3] 40)).alloc (.cells #[.bool false,.string ⟨#[]⟩,.string ⟨#[]⟩] 40))):=(((((Below.refl _ w).alloc (Nat.le_refl _) _).alloc (by simp) _).alloc (by simp;omega) _).alloc (by simp;omega) _);have ak:Hid (Bk ((((w.alloc (.cells #[.bool g1,.string n1,.string d1] 40)).alloc (.cells #[.bool g2,.string n2,.string d2] 40)).alloc (.cells #[.bool g3,.string n3,.string d3] 40)).alloc (.cells #[.bool false,.string ⟨#[]⟩,.string ⟨#[]⟩] 40)) (w.heap.size) 40 [.bool g1,.string n1,.string d1]):=by have h:=Bk.new w 40 [.bool g1,.string n1,.string d1];have h:=h.alloc (.cells #[.bool g2,.string n2,.string d2] 40);have h:=h.alloc (.cells #[.bool g3,.string n3,.string d3] 40);have h:=h.alloc (.cells #[.bool false,.string ⟨#[]⟩,.string ⟨#[]⟩] 40); exact h
 have ad:Hid (Bk ((((w.alloc (.cells #[.bool g1,.string n1,.string d1] 40)).alloc (.cells #[.bool g2,.string n2,.string d2] 40)).alloc (.cells #[.bool g3,.string n3,.string d3] 40)).alloc (.cells #[.bool false,.string ⟨#[]⟩,.string ⟨#[]⟩] 40)) (w.heap.size+1) 40 [.bool g2,.string n2,.string d2]):=by have h:=Bk.new (w.alloc (.cells #[.bool g1,.string n1,.string d1] 40)) 40 [.bool g2,.string n2,.string d2];have h:=h.alloc (.cells #[.bool g3,.string n3,.string d3] 40);have h:=h.alloc (.cells #[.bool false,.string ⟨#[]⟩,.string ⟨#[]⟩] 40);simp only[World.size_alloc]at h;exact h
 have ae:Hid (Bk ((((w.alloc (.cells #[.bool g1,.string n1,.string d1] 40)).alloc (.cells #[.bool g2,.string n2,.string d2] 40)).alloc (.cells #[.bool g3,.string n3,.string d3] 40)).alloc (.cells #[.bool false,.string ⟨#[]⟩,.string ⟨#[]⟩] 40)) (w.heap.size+1+1) 40 [.bool g3,.string n3,.string d3]):=by have h:=Bk.new ((w.alloc (.cells #[.bool g1,.string n1,.string d1] 40)).alloc (.cells #[.bool g2,.string n2,.string d2] 40)) 40 [.bool g3,.string n3,.string d3];have h:=h.alloc (.cells #[.bool false,.string ⟨#[]⟩,.string ⟨#[]⟩] 40);simp only[World.size_alloc]at h;exact h
 have au:Hid (Bk ((((w.alloc (.cells #[.bool g1,.string n1,.string d1] 40)).alloc (.cells #[.bool g2,.string n2,.string d2] 40)).alloc (.cells #[.bool g3,.string n3,.string d3] 40)).alloc (.cells #[.bool false,.string ⟨#[]⟩,.string ⟨#[]⟩] 40)) (w.heap.size+1+1+1) 40 [.bool false,.string ⟨#[]⟩,.string ⟨#[]⟩]):=by have h:=Bk.new (((w.alloc (.cells #[.bool g1,.string n1,.string d1] 40)).alloc (.cells #[.bool g2,.string n2,.string d2] 40)).alloc (.cells #[.bool g3,.string n3,.string d3] 40)) 40 [.bool false,.string ⟨#[]⟩,.string ⟨#[]⟩];simp only[World.size_alloc]at h;exact h
 replace hE:=zh hE;have k1:=zh (km.out ((((w.alloc (.cells #[.bool g1,.string n1,.string d1] 40)).alloc (.cells #[.bool g2,.string n2,.string d2] 40)).alloc (.cells #[.bool g3,.string n3,.string d3] 40)).alloc (.cells #[.bool false,.string ⟨#[]⟩,.string ⟨#[]⟩] 40)) (hE.out.below af.out));have y0:=ad.out.c0;have y1:=ad.out.c1;have y2:=ad.out.c2;have y9:=ad.out.lt;have z0:=ae.out.c0;have z1:=ae.out.c1;have z2:=ae.out.c2;have z9:=ae.out.lt;go_enter Tryz.func97,Tryz.ntmps97
 go_wp2_with fail
 refine k1.out.mono ?_;rintro e w3 ⟨rfl,hb⟩;have ai:=zh (af.out.trans (hb.mono af.out.size));have al:=zh (ak.out.below hb);have am:=zh (ad.out.below hb);have ao:=zh (ae.out.below hb);have av:=zh (au.out.below hb);clear hb af ak ad ae au k1 y0 y1 y2 y9 z0 z1 z2 z9;have ag:Hid (Below w.heap.size w (w3.alloc (.cells #[.bool g4,.string n4,.string d4] 40))):=ai.out.alloc ai.out.size _;have aa:=zh (al.out.alloc (.cells #[.bool g4,.string n4,.string d4] 40));have an:=zh (am.out.alloc (.cells #[.bool g4,.string n4,.string d4] 40));have aq:=zh (ao.out.alloc (.cells #[.bool g4,.string n4,.string d4] 40));have aw:=zh (av.out.alloc (.cells #[.bool g4,.string n4,.string d4] 40));clear ai al am ao av;have ar:Hid (Bk (w3.alloc (.cells #[.bool g4,.string n4,.string d4] 40)) w3.heap.size 40 [.bool g4,.string n4,.string d4]):=Bk.new _ _ _;have k2:=zh (ka.out (w3.alloc (.cells #[.bool g4,.string n4,.string d4] 40)) (hE.out.below ag.out));have x0:=aa.out.c0;have x1:=aa.out.c1;have x2:=aa.out.c2;have x9:=aa.out.lt
 go_wp2_with fail
 refine k2.out.mono ?_;rintro e w5 ⟨rfl,hb⟩;have aj:=zh (ag.out.trans (hb.mono ag.out.size));have a:=zh (aa.out.below hb);have aC:=zh (an.out.below hb);have aD:=zh (aq.out.below hb);have ax:=zh (aw.out.below hb);have aE:=zh (ar.out.below hb);clear hb ag aa an aq aw ar k2 x0 x1 x2 x9;have x0:=a.out.c0;have x1:=a.out.c1;have x2:=a.out.c2;have x9:=a.out.lt;have aI:=a.out.frozen 0;have aJ:=a.out.frozen 1;have aK:=a.out.frozen 2;have az:Hid (Below w.heap.size w (((w5.setCell ⟨w.heap.size,0,none⟩ (.bool g5)).setCell ⟨w.heap.size,1,none⟩ (.string n5)).setCell ⟨w.heap.size,2,none⟩ (.string d5))):=(((aj.out.setCell (p:=⟨w.heap.size,0,none⟩) (Nat.le_refl _) _).setCell (p:=⟨w.heap.size,1,none⟩) (Nat.le_refl _) _).setCell (p:=⟨w.heap.size,2,none⟩) (Nat.le_refl _) _);have aB:=zh ((Bk.set (Bk.set (Bk.set a.out 0 (.bool g5)) 1 (.string n5)) 2 (.string d5)));have d:=zh ((((ax.out.far (p:=⟨w.heap.size,0,none⟩) (by first | (simp only[];omega) | omega) (.bool g5)).far (p:=⟨w.heap.size,1,none⟩) (by first | (simp only[];omega) | omega) (.string n5)).far (p:=⟨w.heap.size,2,none⟩) (by first | (simp only[];omega) | omega) (.string d5)));clear aj a ax;have r0:=d.out.c0;have r1:=d.out.c1;have r2:=d.out.c2;have r9:=d.out.lt;have aF:=d.out.frozen 0;have aG:=d.out.frozen 1;have aH:=d.out.frozen 2;have aA:Hid (Below w.heap.size w ((((((w5.setCell ⟨w.heap.size,0,none⟩ (.bool g5)).setCell ⟨w.heap.size,1,none⟩ (.string n5)).setCell ⟨w.heap.size,2,none⟩ (.string d5)).setCell ⟨w.heap.size+1+1+1,0,none⟩ (.bool g5)).setCell ⟨w.heap.size+1+1+1,1,none⟩ (.string n5)).setCell ⟨w.heap.size+1+1+1,2,none⟩ (.string d5))):=(((az.out.setCell (p:=⟨w.heap.size+1+1+1,0,none⟩) (by simp only[];omega) _).setCell (p:=⟨w.heap.size+1+1+1,1,none⟩) (by simp only[];omega) _).setCell (p:=⟨w.heap.size+1+1+1,2,none⟩) (by simp only[];omega) _);have ah:Hid (Bk ((((((w5.setCell ⟨w.heap.size,0,none⟩ (.bool g5)).setCell ⟨w.heap.size,1,none⟩ (.string n5)).setCell ⟨w.heap.size,2,none⟩ (.string d5)).setCell ⟨w.heap.size+1+1+1,0,none⟩ (.bool g5)).setCell ⟨w.heap.size+1+1+1,1,none⟩ (.string n5)).setCell ⟨w.heap.size+1+1+1,2,none⟩ (.string d5)) (w.heap.size+1+1+1) 40 [.bool g5,.string n5,.string d5]):=(Bk.set (Bk.set (Bk.set d.out 0 (.bool g5)) 1 (.string n5)) 2 (.string d5));go_wp2
 (try simp only[Exit.inBlock,Exit.then])
 have s0:=ah.out.c0;have s1:=ah.out.c1;have s2:=ah.out.c2;have s9:=ah.out.lt;refine bodyPost_ret (v:=.agg #[.bool g5,.string n5,.string d5]) (by simp[results,Tryz.results97,go_sem,s0,s1,s2]) rfl ⟨rfl,aA.out⟩
end Sh
end
section
namespace Sh
open Nt
def IsI (x:Rat):Prop:=∃z:Int,x=(z:Rat)
theorem IsI.zero:IsI 0:=⟨0,by simp⟩
theorem IsI.one:IsI 1:=⟨1,by simp⟩
theorem IsI.add {x y:Rat} (h1:IsI x) (h2:IsI y):IsI (x+y):=by
 obtain⟨a,rfl⟩:=h1;obtain⟨b,rfl⟩:=h2;exact⟨a+b,by simp[Rat.intCast_add]⟩
theorem IsI.mul {x y:Rat} (h1:IsI x) (h2:IsI y):IsI (x*y):=by
 obtain⟨a,rfl⟩:=h1;obtain⟨b,rfl⟩:=h2;exact⟨a*b,by simp[Rat.intCast_mul]⟩
theorem IsI.neg {x:Rat} (h1:IsI x):IsI (-x):=by
 obtain⟨a,rfl⟩:=h1;exact⟨-a,by simp[Rat.intCast_neg]⟩
theorem IsI.sum {n:Nat} {f:Nat->Rat} (h:∀i,i<n->IsI (f i)):IsI (Ao n f):=by
 induction n with
 | zero=>exact IsI.zero
 | succ n ih=>unfold Ao;exact(ih fun i hi=>h i (by omega)).add (h n (by omega))
def skip (i r:Nat):Nat:=if r<i then r else r+1
def sgn:Nat->Rat
 | 0=>1
 | n+1=>- sgn n
theorem TO (n:Nat):IsI (sgn n):=by
 induction n with
 | zero=>exact IsI.one
 | succ n ih=>exact ih.neg
def det:Nat->Mx->Rat
 | 0,_=>1
 | n+1,M=>Ao (n+1) fun i=>sgn i*M i 0*det n fun r c=>M (skip i r) (c+1)
theorem Ed:∀{n:Nat} {M N:Mx},(∀i j,i<n->j<n->M i j=N i j)->det n M=det n N:=by
 intro n
 induction n with
 | zero=>intros;rfl
 | succ n ih =>
   intro M N h;unfold det;apply Az;intro i hi;rw[h i 0 hi (by omega),ih (M:=fun r c=>M (skip i r) (c+1)) (N:=fun r c=>N (skip i r) (c+1))];intro r c hr hc;exact h _ _ (by unfold skip;split<;>omega) (by omega)
def AD (r:Nat) (u:Nat->Rat) (M:Mx):Mx:=fun i=>if i=r then u else M i
theorem JL {i r:Nat} (h:r≠i):∃t,skip i t=r/\∀s,skip i s=r↔s=t:=by
 by_cases c:r<i
 · refine⟨r,by unfold skip;rw[if_pos c],fun s=>?_⟩;unfold skip;split<;>omega
 · refine⟨r-1,by unfold skip;rw[if_neg (by omega)];omega,fun s=>?_⟩;unfold skip;split<;>omega
theorem D1 {i:Nat} (u:Nat->Rat) (M:Mx):(fun r c=>AD i u M (skip i r) (c+1))=fun r c=>M (skip i r) (c+1):=by
 funext r c
 unfold AD;rw[if_neg (by unfold skip;split<;>omega)]
theorem CY {i r t:Nat} (u:Nat->Rat) (M:Mx) (h:∀s,skip i s=r↔s=t):(fun s c=>AD r u M (skip i s) (c+1))=AD t (fun c=>u (c+1)) fun s c=>M (skip i s) (c+1):=by
 funext s c
 unfold AD
 by_cases e:s=t
 · rw[if_pos ((h s).2 e),if_pos e]
 · rw[if_neg (fun e2=>e ((h s).1 e2)),if_neg e]
theorem NJ {i r t n:Nat} (h:skip i t=r) (hr:r<n+1) (hi:i<n+1) (_:r≠i):t<n:=by
 unfold skip at h;split at h<;>omega
theorem FR:∀{n r:Nat} (u v:Nat->Rat) (a b:Rat) (M:Mx),r<n->det n (AD r (fun j=>a*u j+b*v j) M)=a*det n (AD r u M)+b*det n (AD r v M):=by
 intro n
 induction n with
 | zero=>intro r u v a b M h;omega
 | succ n ih =>
   intro r u v a b M hr;unfold det;rw[<-AY,<-AY,<-CJ];apply Az;intro i hi
   by_cases e:r=i
   · subst e;rw[D1,D1,D1];unfold AD;rw[if_pos rfl,if_pos rfl,if_pos rfl];grind
   · obtain⟨t,h1,h2⟩:=JL e;rw[CY _ _ h2,CY _ _ h2,CY _ _ h2,ih _ _ _ _ _ (NJ h1 hr hi e)];unfold AD;rw[if_neg (fun h=>e h.symm),if_neg (fun h=>e h.symm),if_neg (fun h=>e h.symm)];grind
theorem Pa {n k:Nat} (f:Nat->Rat) (hk:k+1<n) (h:∀i,i<n->i≠k->i≠k+1->f i=0):Ao n f=f k+f (k+1):=by
 induction n with
 | zero=>omega
 | succ n ih =>
   unfold Ao
   by_cases e:k+1=n
   · subst e;rw[Cq (k:=k) f (by omega) fun i hi d=>h i (by omega) d (by omega)]
   · rw[ih (by omega) fun i hi a b=>h i (by omega) a b,h n (by omega) (by omega) (by omega)];grind
theorem NK:∀{n r:Nat} {M:Mx},r+1<n->(∀j,j<n->M r j=M (r+1) j)->det n M=0:=by
 intro n
 induction n with
 | zero=>intro r M h;omega
 | succ n ih =>
   intro r M hr he;unfold det;rw[Pa (k:=r) _ hr]
   · have e1:det n (fun s c=>M (skip r s) (c+1))=det n (fun s c=>M (skip (r+1) s) (c+1)):=by
      apply Ed;intro s c hs hc;unfold skip
      by_cases c1:s<r
      · rw[if_pos c1,if_pos (by omega)]
      · by_cases c2:s=r
        · subst c2;rw[if_neg (by omega),if_pos (by omega)];exact(he _ (by omega)).symm
        · rw[if_neg c1,if_neg (by omega)]
     rw[e1,he 0 (by omega)]
     show sgn r*_*_+(- sgn r)*_*_=0
     grind
   · intro i hi h1 h2;obtain⟨t,k1,k2⟩:=JL (i:=i) (r:=r) (fun e=>h1 e.symm);obtain⟨t2,l1,l2⟩:=JL (i:=i) (r:=r+1) (fun e=>h2 e.symm)
     have:t2=t+1:=by
      have a:skip i (t+1)=r+1:=by unfold skip at k1 ⊢;split at k1<;>split<;>omega
      exact((l2 _).1 a).symm
     subst this;have ht:t+1<n:=NJ l1 hr hi (fun e=>h2 e.symm);rw[ih (r:=t) ht]
     · grind
     · intro j hj;rw[k1,l1];exact he _ (by omega)
theorem Ee (r:Nat) (M:Mx):AD r (M r) M=M:=by
 funext i
 unfold AD
 split
 · next h=>rw[h]
 · rfl
theorem Gw {r s:Nat} (h:r≠s) (u v:Nat->Rat) (M:Mx):AD r u (AD s v M)=AD s v (AD r u M):=by
 funext i
 unfold AD
 by_cases e1:i=r
 · rw[if_pos e1,if_neg (by omega),if_pos e1]
 · rw[if_neg e1]
   by_cases e2:i=s
   · rw[if_pos e2,if_pos e2]
   · rw[if_neg e2,if_neg e2,if_neg e1]
theorem Pb (r:Nat) (u v:Nat->Rat) (M:Mx):AD r u (AD r v M)=AD r u M:=by
 funext i
 unfold AD
 split<;>rfl
theorem R9 {n r:Nat} (u v:Nat->Rat) (M:Mx) (hr:r+1<n):det n (AD r u (AD (r+1) v M))=- det n (AD r v (AD (r+1) u M)):=by
 have z:∀x:Nat->Rat,det n (AD r x (AD (r+1) x M))=0:=fun x=>NK hr fun j _=>by
  unfold AD;rw[if_pos rfl,if_neg (by omega),if_pos rfl]
 have l1:∀x y z:Nat->Rat,det n (AD r (fun j=>1*x j+1*y j) (AD (r+1) z M))=1*det n (AD r x (AD (r+1) z M))+1*det n (AD r y (AD (r+1) z M)):=fun x y z=>FR x y 1 1 _ (by omega)
 have l2:∀x y z:Nat->Rat,det n (AD r z (AD (r+1) (fun j=>1*x j+1*y j) M))=1*det n (AD r z (AD (r+1) x M))+1*det n (AD r z (AD (r+1) y M)):=fun x y z=>by
  rw[Gw (by omega),Gw (by omega) z x,Gw (by omega) z y];exact FR x y 1 1 _ hr
 have h:=z fun j=>1*u j+1*v j;rw[l1,l2,l2,z u,z v]at h;grind
theorem RA:∀{d n r:Nat} {M:Mx},r+1+d<n->(∀j,j<n->M r j=M (r+1+d) j)->det n M=0:=by
 intro d
 induction d with
 | zero=>intro n r M h he;exact NK h he
 | succ d ih =>
   intro n r M h he
   have h1:M=AD (r+1+d) (M (r+1+d)) (AD (r+1+d+1) (M (r+1+(d+1))) M):=by
    have e1:=Ee (r+1+d+1) M;rw[show r+1+(d+1)=r+1+d+1 by omega,e1,Ee]
   rw[h1,R9 _ _ _ (by omega),ih (r:=r) (by omega)]
   · rfl
   · intro j hj;unfold AD;rw[if_neg (by omega),if_neg (by omega),if_pos rfl];exact he j hj
theorem NL {n r s:Nat} {M:Mx} (hr:r<n) (hs:s<n) (a:r≠s) (he:∀j,j<n->M r j=M s j):det n M=0:=by
 by_cases c:r<s
 · exact RA (d:=s-r-1) (r:=r) (by omega) fun j hj=>by rw[show r+1+(s-r-1)=s by omega];exact he j hj
 · exact RA (d:=r-s-1) (r:=s) (by omega) fun j hj=>by rw[show s+1+(r-s-1)=r by omega];exact(he j hj).symm
theorem M8 {n r s:Nat} (c:Rat) (M:Mx) (hr:r<n) (hs:s<n) (a:r≠s):det n (AD r (fun j=>M r j+c*M s j) M)=det n M:=by
 have h:=FR (M r) (M s) 1 c M hr;rw[Ee,NL (M:=AD r (M s) M) hr hs a fun j _=>by unfold AD;rw[if_pos rfl,if_neg (fun e=>a e.symm)]]at h;have e:(fun j=>M r j+c*M s j)=fun j=>1*M r j+c*M s j:=by funext j;rw[Rat.one_mul]
 rw[e,h];grind
theorem HI {n r:Nat} (c:Rat) (M:Mx) (hr:r<n):det n (AD r (fun j=>c*M r j) M)=c*det n M:=by
 have h:=FR (M r) (M r) c 0 M hr;rw[Ee]at h;have e:(fun j=>c*M r j)=fun j=>c*M r j+0*M r j:=by funext j;grind
 rw[e,h];grind
theorem RB:∀(n:Nat) {M:Mx},(∀i j,i<n->j<n->M i j=if i=j then 1 else 0)->det n M=1:=by
 intro n
 induction n with
 | zero=>intros;rfl
 | succ n ih =>
   intro M h;unfold det;rw[Cq (k:=0) _ (by omega) fun i hi a=>by rw[h i 0 hi (by omega),if_neg a];grind];rw[h 0 0 (by omega) (by omega),if_pos rfl,ih]
   · show (1:Rat)*1*1=1
     grind
   · intro i j hi hj
     show M (i+1) (j+1)=_
     rw[h _ _ (by omega) (by omega)]
     by_cases e:i=j
     · rw[if_pos e,if_pos (by omega)]
     · rw[if_neg e,if_neg (by omega)]
theorem TP {n r:Nat} (M:Mx) (hr:r<n) (y:Nat->Rat) (R:Nat->Nat->Rat):∀m,det n (AD r (fun j=>Ao m fun l=>y l*R l j) M)=Ao m fun l=>y l*det n (AD r (R l) M):=by
 intro m
 induction m with
 | zero =>
   have h:=HI 0 (AD r (fun _=>0) M) hr;rw[Pb]at h;have e:(fun j=>0*AD r (fun _=>0) M r j)=(fun _=>0):=by funext j;grind
   rw[e]at h
   show det n (AD r (fun _=>0) M)=0
   rw[h];grind
 | succ m ih =>
   show det n (AD r (fun j=>(Ao m fun l=>y l*R l j)+y m*R m j) M)=_
   have e:(fun j=>(Ao m fun l=>y l*R l j)+y m*R m j)=fun j=>1*(Ao m fun l=>y l*R l j)+y m*R m j:=by funext j;grind
   rw[e,FR _ _ _ _ _ hr,ih]
   show _=(Ao m fun l=>y l*det n (AD r (R l) M))+y m*det n (AD r (R m) M)
   grind
theorem Vj {n i:Nat} (M:Mx) (y c:Nat->Rat) (hi:i<n) (h:∀j,j<n->Ao n (fun l=>y l*M l j)=c j):y i*det n M=det n (AD i c M):=by
 have h1:det n (AD i c M)=det n (AD i (fun j=>Ao n fun l=>y l*M l j) M):=by
  apply Ed;intro r j _ hj;unfold AD
  split
  · exact(h j hj).symm
  · rfl
 rw[h1,TP M hi,Cq (k:=i) _ hi fun l hl a=>?_,Ee];rw[NL (M:=AD i (M l) M) hi hl (fun e=>a e.symm) fun j _=>by unfold AD;rw[if_pos rfl,if_neg a]];grind
def Bo:Nat->(Nat->Rat)->Rat
 | 0,_=>1
 | n+1,f=>Bo n f*f n
theorem GK:∀{n i:Nat} (f:Nat->Rat),i<n+1->Bo (n+1) f=f i*Bo n fun r=>f (skip i r):=by
 intro n
 induction n with
 | zero => intro i f h;have:i=0:=by omega
           subst this;simp only[Bo];grind
 | succ n ih =>
   intro i f h
   by_cases e:i=n+1
   · subst e
     show Bo (n+1) f*f (n+1)=_
     have:Bo (n+1) (fun r=>f (skip (n+1) r))=Bo (n+1) f:=by
      have:∀m,m<=n+1->Bo m (fun r=>f (skip (n+1) r))=Bo m f:=by
       intro m
       induction m with
       | zero=>intro _;rfl
       | succ m ihm=>intro hm;unfold Bo;rw[ihm (by omega)];congr 1;show f (if m<n+1 then m else m+1)=f m;rw[if_pos (by omega)]
      exact this _ (Nat.le_refl _)
     rw[this];grind
   · show Bo (n+1) f*f (n+1)=_
     rw[ih f (by omega:i<n+1)]
     show _=f i*(Bo n (fun r=>f (skip i r))*f (skip i n))
     rw[show skip i n=n+1 by unfold skip;rw[if_neg (by omega)]];grind
theorem JM:∀{n:Nat} {s:Nat->Rat} {M:Mx},(∀i j,i<n->j<n->IsI (s i*M i j))->IsI (Bo n s*det n M):=by
 intro n
 induction n with
 | zero=>intro s M _;show IsI (1*1);rw[Rat.one_mul];exact IsI.one
 | succ n ih =>
   intro s M h;unfold det;rw[<-AY];apply IsI.sum;intro i hi;rw[GK s hi];have h1:=ih (s:=fun r=>s (skip i r)) (M:=fun r c=>M (skip i r) (c+1)) fun a b ha hb=>h _ _ (by unfold skip;split<;>omega) (by omega);have h2:=((TO i).mul (h i 0 hi (by omega))).mul h1;have e:s i*Bo n (fun r=>s (skip i r))*(sgn i*M i 0*det n fun r c=>M (skip i r) (c+1))=sgn i*(s i*M i 0)*(Bo n (fun r=>s (skip i r))*det n fun r c=>M (skip i r) (c+1)):=by grind
   rw[e];exact h2
end Sh
end
section
namespace Sh
open Nt
theorem HJ {n:Nat} {f g:Nat->Rat} (h:∀i,i<n->f i<=g i):Ao n f<=Ao n g:=by
 induction n with
 | zero=>exact Rat.le_refl
 | succ n ih =>
   unfold Ao;have h1:=ih fun i hi=>h i (by omega);have h2:=h n (by omega);grind
theorem EI {n k:Nat} (f:Nat->Rat) (hk:k<n):Ao n f=f k+Ao n fun j=>if j=k then 0 else f j:=by
 induction n with
 | zero=>omega
 | succ n ih =>
   show Ao n f+f n=f k+((Ao n fun j=>if j=k then 0 else f j)+(if n=k then 0 else f n))
   by_cases e:k=n
   · subst e;rw[if_pos rfl,Az (g:=f) (f:=fun j=>if j=k then 0 else f j) fun i hi=>if_neg (by omega)];grind
   · rw[if_neg (by omega),ih (by omega)];grind
theorem HU {a b:Rat} (h1:a<=0) (h2:0<=b):a*b<=0:=by
 have:=Rat.mul_nonneg (a:=-a) (b:=b) (by grind) h2;grind
def Cy (k:Nat) (M:Mx):Mx:=fun i j=>if i=k then M k j*(M k k)⁻¹ else M i j-M i k*(M k j*(M k k)⁻¹)
structure Shs (n:Nat) (M:Mx) (v:Nat->Rat):Prop where
 le1:∀i,i<n->M i i<=1
 off:∀i j,i<n->j<n->j≠i->M i j<=0
 rhs:∀i,i<n->0<=M i n
 slack:∀i,i<n->M i n<=Ao n (M i)
 pos:∀i,i<n->0<Ao n fun j=>M i j*v j
 vnn:∀j,j<n->0<=v j
theorem Shs.piv {n k:Nat} {M:Mx} {v:Nat->Rat} (h:Shs n M v) (hk:k<n):0<M k k:=by
 have h1:=h.pos k hk;rw[EI _ hk]at h1
 have h2:(Ao n fun j=>if j=k then 0 else M k j*v j)<=0:=by
  have:=HJ (n:=n) (f:=fun j=>if j=k then 0 else M k j*v j) (g:=fun _=>0) fun j hj=>by
   split
   · exact Rat.le_refl
   · next e=>exact HU (h.off k j hk hj e) (h.vnn j hj)
  rw[CI fun _ _=>rfl]at this;exact this
 by_cases c:0<M k k
 · exact c
 · have:=HU (Rat.not_lt.1 c) (h.vnn k hk);grind
theorem inv_pos {p:Rat} (h:0<p):0<p⁻¹:=Rat.inv_pos.2 h
theorem Shs.step {n k:Nat} {M:Mx} {v:Nat->Rat} (h:Shs n M v) (hk:k<n):Shs n (Cy k M) v:=by
 have hp:=h.piv hk;have hq:=inv_pos hp;have aa:M k k*(M k k)⁻¹=1:=Rat.mul_inv_cancel _ (by grind);have rowk:∀j,Cy k M k j=(M k k)⁻¹*M k j:=fun j=>by unfold Cy;rw[if_pos rfl];grind
 have rowi:∀i j,i≠k->Cy k M i j=M i j+(- M i k*(M k k)⁻¹)*M k j:=fun i j e=>by unfold Cy;rw[if_neg e];grind
 have hf:∀i,i<n->i≠k->0 <=-M i k*(M k k)⁻¹:=fun i hi e=>Rat.mul_nonneg (by have:=h.off i k hi hk (fun a=>e a.symm);grind) (Rat.le_of_lt hq);refine⟨fun i hi=>?_,fun i j hi hj d=>?_,fun i hi=>?_,fun i hi=>?_,fun i hi=>?_,h.vnn⟩
 · by_cases e:i=k
   · subst e;rw[rowk,Rat.mul_comm,aa];exact Rat.le_refl
   · rw[rowi i i e];have h1:=h.le1 i hi;have h2:=HU (h.off k i hk hi e) (hf i hi e);grind
 · by_cases e:i=k
   · subst e;rw[rowk];have:=HU (h.off i j hi hj d) (Rat.le_of_lt hq);grind
   · rw [rowi i j e]
     by_cases e2:j=k
     · subst e2;have e3:M i j+-M i j*(M j j)⁻¹*M j j=M i j-M i j*(M j j*(M j j)⁻¹):=by grind
       rw[e3,aa];grind
     · have h1:=h.off i j hi hj d;have h2:=HU (h.off k j hk hj e2) (hf i hi e);grind
 · by_cases e:i=k
   · subst e;rw[rowk];exact Rat.mul_nonneg (Rat.le_of_lt hq) (h.rhs i hi)
   · rw[rowi i n e];have h1:=h.rhs i hi;have h2:=Rat.mul_nonneg (hf i hi e) (h.rhs k hk);grind
 · by_cases e:i=k
   · subst e;rw[rowk,Az fun j _=>rowk j,AY];exact Rat.mul_le_mul_of_nonneg_left (h.slack i hi) (Rat.le_of_lt hq)
   · rw[rowi i n e,Az fun j _=>rowi i j e,CJ,AY];have h1:=h.slack i hi;have h2:=Rat.mul_le_mul_of_nonneg_left (h.slack k hk) (hf i hi e);have h3:Ao n (M i)=Ao n fun j=>M i j:=rfl;have h4:Ao n (M k)=Ao n fun j=>M k j:=rfl;rw[h3]at h1;rw[h4]at h2;grind
 · by_cases e:i=k
   · subst e;rw[Az (g:=fun j=>(M i i)⁻¹*(M i j*v j)) fun j _=>by rw[rowk];grind,AY];exact Rat.mul_pos hq (h.pos i hi)
   · rw[Az (g:=fun j=>M i j*v j+(- M i k*(M k k)⁻¹)*(M k j*v j)) fun j _=>by rw[rowi i j e];grind,CJ,AY];have h1:=h.pos i hi;have h2:=Rat.mul_nonneg (hf i hi e) (Rat.le_of_lt (h.pos k hk));grind
theorem Shs.diag {n i:Nat} {M:Mx} {v:Nat->Rat} (h:Shs n M v) (hi:i<n):0<=M i i/\M i n<=M i i/\∀j,j<n->- M i i<=M i j:=by
 have h1:=h.slack i hi;have h2:=h.rhs i hi;rw[EI _ hi]at h1
 have h3:(Ao n fun j=>if j=i then 0 else M i j)<=0:=by
  have:=HJ (n:=n) (f:=fun j=>if j=i then 0 else M i j) (g:=fun _=>0) fun j hj=>by
   split
   · exact Rat.le_refl
   · next e=>exact h.off i j hi hj e
  rw[CI fun _ _=>rfl]at this;exact this
 refine⟨by grind,by grind,fun j hj=>?_⟩
 by_cases e:j=i
 · subst e;grind
 · rw [EI _ hj,if_neg e]at h1
   have h4:(Ao n fun t=>if t=j then 0 else if t=i then 0 else M i t)<=0:=by
    have:=HJ (n:=n) (f:=fun t=>if t=j then 0 else if t=i then 0 else M i t) (g:=fun _=>0) fun t ht=>by
     split
     · exact Rat.le_refl
     · split
       · exact Rat.le_refl
       · next e=>exact h.off i t hi ht e
    rw[CI fun _ _=>rfl]at this;exact this
   grind
theorem Shs.abs {n i j:Nat} {M:Mx} {v:Nat->Rat} (h:Shs n M v) (hi:i<n) (hj:j<=n):-1<=M i j/\M i j<=1:=by
 obtain⟨h1,h2,h3⟩:=h.diag hi;have h4:=h.le1 i hi
 by_cases e:j=n
 · subst e;have:=h.rhs i hi;grind
 · have h5:=h3 j (by omega)
   by_cases e2:j=i
   · subst e2;grind
   · have:=h.off i j hi (by omega) e2;grind
structure Mad (n k:Nat) (A M:Mx):Prop where
 unit:Unit n k M
 comb:∀i,i<n->∃y:Nat->Rat,(∀l,k<=l->y l=0)/\∀j,j<=n->M i j=(if i<k then 0 else A i j)+Ao k fun l=>y l*A l j
 dets:∃P:Rat,0<P/\P<=1/\∀K,k<=K->K<=n->det K A=P*det K M
theorem Mad.start (n:Nat) (A:Mx):Mad n 0 A A:=by
 refine⟨fun i j _ h=>absurd h (by omega),fun i _=>⟨fun _=>0,fun _ _=>rfl,fun j _=>?_⟩,1,by decide,by decide,fun K _ _=>(Rat.one_mul _).symm⟩;rw[if_neg (by omega)];exact(Rat.add_zero _).symm
def GL (k m:Nat) (M:Mx):Mx:=fun i j=>if i=k then M k j*(M k k)⁻¹ else if i<m then M i j-M i k*(M k j*(M k k)⁻¹) else M i j
theorem Pc {n k K:Nat} {M:Mx} (hk:k<K) (_:K<=n):∀m,det K (GL k m M)=(M k k)⁻¹*det K M:=by
 intro m
 induction m with
 | zero =>
   rw[<-HI _ M hk]
   congr 1
   funext i j
   unfold GL AD
   by_cases e:i=k
   · rw[if_pos e,if_pos e,Rat.mul_comm]
   · rw[if_neg e,if_neg (by omega),if_neg e]
 | succ m ih =>
   rw[<-ih]
   by_cases e:m=k
   · congr 1
     funext i j
     unfold GL
     by_cases e2:i=k
     · rw[if_pos e2,if_pos e2]
     · rw[if_neg e2,if_neg e2]
       by_cases c:i<m
       · rw[if_pos (by omega),if_pos c]
       · rw[if_neg (by omega),if_neg c]
   · by_cases c:m<K
     · rw [<-M8 (r:=m) (s:=k) (- M m k) (GL k m M) c hk e]
       congr 1
       funext i j
       unfold AD
       by_cases e2:i=m
       · subst e2;unfold GL;simp only[if_neg e,if_neg (Nat.lt_irrefl _),if_pos (Nat.lt_succ_self _)];simp only[if_true];grind
       · rw [if_neg e2];unfold GL
         by_cases e3:i=k
         · rw[if_pos e3,if_pos e3]
         · rw[if_neg e3,if_neg e3]
           by_cases c2:i<m
           · rw[if_pos (by omega),if_pos c2]
           · rw[if_neg (by omega),if_neg c2]
     · apply Ed;intro i j hi hj;unfold GL
       by_cases e3:i=k
       · rw[if_pos e3,if_pos e3]
       · rw[if_neg e3,if_neg e3,if_pos (by omega),if_pos (by omega)]
theorem Pd {n k K:Nat} {M:Mx} (hk:k<K) (hK:K<=n):det K (Cy k M)=(M k k)⁻¹*det K M:=by
 rw[<-Pc (n:=n) hk hK K];apply Ed;intro i j hi _;unfold GL Cy
 by_cases e:i=k
 · rw[if_pos e,if_pos e]
 · rw[if_neg e,if_neg e,if_pos hi]
theorem Mad.step {n k:Nat} {A M:Mx} {v:Nat->Rat} (h:Mad n k A M) (hs:Shs n M v) (hk:k<n):Mad n (k+1) A (Cy k M):=by
 have hp:=hs.piv hk;have d:M k k*(M k k)⁻¹=1:=Rat.mul_inv_cancel _ (by grind);have hz:=h.unit.zeros hk (Nat.le_refl _);refine⟨fun i j hi hj=>?_,fun i hi=>?_,?_⟩
 · unfold Cy
   by_cases e:j=k
   · subst e
     by_cases e2:i=j
     · rw[if_pos e2,if_pos e2,d]
     · rw[if_neg e2,if_neg e2,d];grind
   · rw[hz j (by omega)]
     by_cases e2:i=k
     · rw[if_pos e2,if_neg (by omega)];grind
     · rw[if_neg e2,h.unit i j hi (by omega)];grind
 · obtain ⟨yk,k1,k2⟩:=h.comb k hk;have k2:∀j,j<=n->M k j=A k j+Ao k fun l=>yk l*A l j:=fun j hj=>by have:=k2 j hj;rwa [if_neg (Nat.lt_irrefl _)]at this
   by_cases e:i=k
   · subst e;refine⟨fun l=>if l=i then (M i i)⁻¹ else (M i i)⁻¹*yk l,fun l hl=>?_,fun j hj=>?_⟩
     · dsimp only;rw[if_neg (by omega),k1 l (by omega)];grind
     · rw[if_pos (by omega)];unfold Cy;rw[if_pos rfl]
       show _=0+((Ao i fun l=>(if l=i then (M i i)⁻¹ else (M i i)⁻¹*yk l)*A l j)+(if i=i then (M i i)⁻¹ else (M i i)⁻¹*yk i)*A i j)
       rw[if_pos rfl,Az (g:=fun l=>(M i i)⁻¹*(yk l*A l j)) fun l hl=>by rw[if_neg (by omega)];grind,AY];have:=k2 j hj;grind
   · obtain ⟨y,h1,h2⟩:=h.comb i hi;refine⟨fun l=>if l=k then-M i k*(M k k)⁻¹ else y l+(- M i k*(M k k)⁻¹)*yk l,fun l hl=>?_,fun j hj=>?_⟩
     · dsimp only;rw[if_neg (by omega),k1 l (by omega),h1 l (by omega)];grind
     · have e1:(if i<k+1 then 0 else A i j)=(if i<k then 0 else A i j):=by
        by_cases c:i<k
        · rw[if_pos c,if_pos (by omega)]
        · rw[if_neg c,if_neg (by omega)]
       rw[e1];unfold Cy;rw[if_neg e]
       show _=_+((Ao k fun l=>(if l=k then-M i k*(M k k)⁻¹ else y l+(- M i k*(M k k)⁻¹)*yk l)*A l j)+(if k=k then-M i k*(M k k)⁻¹ else y k+(- M i k*(M k k)⁻¹)*yk k)*A k j)
       rw[if_pos rfl,Az (g:=fun l=>y l*A l j+(- M i k*(M k k)⁻¹)*(yk l*A l j)) fun l hl=>by rw[if_neg (by omega)];grind,CJ,AY];have a:=k2 j hj;have b:=h2 j hj;grind
 · obtain ⟨P,p1,p2,p3⟩:=h.dets;refine⟨P*M k k,Rat.mul_pos p1 hp,?_,fun K h1 h2=>?_⟩
   · have h1:=hs.le1 k hk;have h2:=Rat.mul_le_mul_of_nonneg_left h1 (Rat.le_of_lt p1);grind
   · rw[p3 K (by omega) h2,Pd (n:=n) (by omega) h2,Rat.mul_assoc,<-Rat.mul_assoc (M k k),d,Rat.one_mul]
theorem Mad.det_k {n k:Nat} {A M:Mx} (h:Mad n k A M) (hk:k<=n):0<det k A/\det k A<=1:=by
 obtain⟨P,p1,p2,p3⟩:=h.dets;have:=p3 k (Nat.le_refl _) hk;rw[RB k fun i j hi hj=>h.unit i j (by omega) hj,Rat.mul_one]at this;rw[this];exact⟨p1,p2⟩
theorem Ey (c:Rat) (n:Nat):Bo n (fun _=>c)=c^n:=by
 induction n with
 | zero=>exact(Rat.pow_zero c).symm
 | succ n ih=>rw[Bo,ih,Rat.pow_succ]
theorem JN {n:Nat} {f g:Nat->Rat} (h:∀i,i<n->f i=g i):Bo n f=Bo n g:=by
 induction n with
 | zero=>rfl
 | succ n ih=>rw[Bo,Bo,ih fun i hi=>h i (by omega),h n (by omega)]
theorem KR {n k l:Nat} {A:Mx} {c:Rat} (hA:∀i j,i<n->j<n->IsI (c*A i j)) (hk:k<=n) (y r:Nat->Rat) (t:Rat) (hl:l<k) (ht:∀j,j<k->IsI (t*r j)) (h:∀j,j<k->(Ao k fun l=>y l*A l j)=r j) :
 IsI (y l*(c^(k-1)*t*det k A)):=by
 have h1:=Vj A y r hl h
 have h2:=JM (n:=k) (s:=fun i=>if i=l then t else c) (M:=AD l r A) fun i j hi hj=>by
  unfold AD
  by_cases e:i=l
  · rw[if_pos e,if_pos e];exact ht j hj
  · rw[if_neg e,if_neg e];exact hA i j (by omega) (by omega)
 have h3:Bo k (fun i=>if i=l then t else c)=c^(k-1)*t:=by
  obtain⟨m,rfl⟩:∃m,k=m+1:=⟨k-1,by omega⟩;rw[GK _ hl,if_pos rfl,JN (g:=fun _=>c) fun i hi=>if_neg (by unfold skip;split<;>omega),Ey,Nat.add_sub_cancel,Rat.mul_comm]
 rw[h3,<-h1]at h2;have e:c^(k-1)*t*(y l*det k A)=y l*(c^(k-1)*t*det k A):=by grind
 rwa [e]at h2
theorem KS (c:Rat) {k:Nat} (h:0<k):c^(k-1)*c=c^k:=by
 obtain⟨m,rfl⟩:∃m,k=m+1:=⟨k-1,by omega⟩;rw[Nat.add_sub_cancel,Rat.pow_succ]
theorem Mad.int_top {n k i j:Nat} {A M:Mx} {c D:Rat} (h:Mad n k A M) (hk:k<=n) (hA:∀i j,i<n->j<n->IsI (c*A i j)) (hb:∀i,i<n->IsI (c*D*A i n)) (hD:IsI D) (hi:i<k) (hj:j<=n):IsI (c^k*det k A*D*M i j):=by
 obtain⟨y,h1,h2⟩:=h.comb i (by omega)
 have h3:∀l,l<k->IsI (y l*(c^(k-1)*1*det k A)):=fun l hl=>KR hA hk y (fun j=>if i=j then 1 else 0) 1 hl (fun j _=>by split;(· rw[Rat.one_mul];exact IsI.one);(· rw[Rat.one_mul];exact IsI.zero)) fun j hj=>by
  have:=h2 j (by omega);rw[h.unit i j (by omega) hj,if_pos hi,Rat.zero_add]at this;exact this.symm
 rw[h2 j hj,if_pos hi,Rat.zero_add,<-AY];apply IsI.sum;intro l hl;have h4:=h3 l hl
 have h5:IsI (c*D*A l j):=by
  by_cases e:j=n
  · rw[e];exact hb l (by omega)
  · have:=(hA l j (by omega) (by omega)).mul hD;have e2:c*A l j*D=c*D*A l j:=by grind
    rwa [e2]at this
 have h6:=h4.mul h5;have e:y l*(c^(k-1)*1*det k A)*(c*D*A l j)=c^(k-1)*c*det k A*D*(y l*A l j):=by grind
 rw[e,KS c (by omega)]at h6;exact h6
theorem Mad.int_all {n k i j:Nat} {A M:Mx} {c D:Rat} (h:Mad n k A M) (hk:k<=n) (hc:IsI c) (hA:∀i j,i<n->j<n->IsI (c*A i j)) (hb:∀i,i<n->IsI (c*D*A i n)) (hD:IsI D) (hi:i<n) (hj:j<=n):IsI (c^k*det k A*(c*D)*M i j):=by
 by_cases hik:i<k
 · have h1:=(h.int_top hk hA hb hD hik hj).mul hc;have e:c^k*det k A*D*M i j*c=c^k*det k A*(c*D)*M i j:=by grind
   rwa [e]at h1
 · obtain ⟨y,h1,h2⟩:=h.comb i hi
   have h3:∀l,l<k->IsI (y l*(c^(k-1)*c*det k A)):=fun l hl=>KR hA hk y (fun j=>- A i j) c hl (fun j hj=>by
    have:=(hA i j hi (by omega)).neg;have e:-(c*A i j)=c*(- A i j):=by grind
    rwa [e]at this) fun j hj=>by
    have:=h2 j (by omega);rw[h.unit i j hi hj,if_neg (by omega),if_neg hik]at this;grind
   have h5:∀l,l<n->IsI (c*D*A l j):=fun l hl=>by
    by_cases e:j=n
    · rw[e];exact hb l hl
    · have:=(hA l j hl (by omega)).mul hD;have e2:c*A l j*D=c*D*A l j:=by grind
      rwa [e2]at this
   have a:IsI (c^k*det k A):=by
    have:=JM (n:=k) (s:=fun _=>c) (M:=A) fun i j hi hj=>hA i j (by omega) (by omega)
    rwa [Ey]at this
   rw[h2 j hj,if_neg hik];have e:c^k*det k A*(c*D)*(A i j+Ao k fun l=>y l*A l j)=c^k*det k A*(c*D*A i j)+(c^k*det k A*(c*D))*Ao k fun l=>y l*A l j:=by grind
   rw[e,<-AY];refine(a.mul (h5 i hi)).add (IsI.sum fun l hl=>?_);have h6:=(h3 l hl).mul (h5 l (by omega));have e:y l*(c^(k-1)*c*det k A)*(c*D*A l j)=c^(k-1)*c*det k A*(c*D)*(y l*A l j):=by grind
   rwa [e,KS c (by omega)]at h6
end Sh
end
end Go.Proofs.YtilodknkildkbaaGreatDoor

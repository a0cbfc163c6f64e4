/- Texts that the proof needs: LawBJoinsU. -/
import Derived.Test.YtmfjbpcecpgchaaGreatDoorKeH
set_option maxHeartbeats 16000000
set_option maxRecDepth 100000
namespace Go.Proofs.YtmfjbpcecpgchaaGreatDoor
open Go.RowKit Go.Shelf
namespace Bd
open Nt Ci Sh
theorem K4(s:SR)(Ap Ac Av Af:Option Addr)(cp cc cv cf:Nat)(F:List Int)(Aa Da:Option Addr)(ma oa:Nat)(Va:List Raw)(Ra:List Int)(Ab Db:Option Addr)(mb ob:Nat)(Vb:List Raw)(Rb:List Int)(w:World)(hE:Env w)(hs:StIn w s Ap Ac Av)(hF:InInt w Af F)(aW:F.length<=140737488355328)(aO:CIn w Aa Da Va Ra)(aP:CIn w Ab Db Vb Rb):
 Calls Tryz.prog 3 #[.agg #[.slice Ap s.ps.length cp,.slice Ac s.cap.length cc,.slice Av s.vot.length cv],.slice Af F.length cf,.agg #[.bool true,.slice Aa Va.length ma,.slice Da Ra.length oa],.agg #[.bool true,.slice Ab Vb.length mb,.slice Db Rb.length ob]] w fun e w'=>e=.returned (.bool true)/\Below w.heap.size w w':=by
 have aV:Hid (Below w.heap.size w (((w.alloc (.cells #[.slice Ap s.ps.length cp,.slice Ac s.cap.length cc,.slice Av s.vot.length cv] 25)).alloc (.cells #[.bool true,.slice Aa Va.length ma,.slice Da Ra.length oa] 29)).alloc (.cells #[.bool true,.slice Ab Vb.length mb,.slice Db Rb.length ob] 29))):=(((zI _ w).alloc (zA _) _).alloc (by simp) _).alloc (by simp;omega) _;have bo:Hid (Bk (((w.alloc (.cells #[.slice Ap s.ps.length cp,.slice Ac s.cap.length cc,.slice Av s.vot.length cv] 25)).alloc (.cells #[.bool true,.slice Aa Va.length ma,.slice Da Ra.length oa] 29)).alloc (.cells #[.bool true,.slice Ab Vb.length mb,.slice Db Rb.length ob] 29)) w.heap.size 25 (SC s Ap Ac Av cp cc cv)):=(((Bk.new w 25 [.slice Ap s.ps.length cp,.slice Ac s.cap.length cc,.slice Av s.vot.length cv]).alloc (.cells #[.bool true,.slice Aa Va.length ma,.slice Da Ra.length oa] 29)).alloc (.cells #[.bool true,.slice Ab Vb.length mb,.slice Db Rb.length ob] 29));have a6:Hid (Bk (((w.alloc (.cells #[.slice Ap s.ps.length cp,.slice Ac s.cap.length cc,.slice Av s.vot.length cv] 25)).alloc (.cells #[.bool true,.slice Aa Va.length ma,.slice Da Ra.length oa] 29)).alloc (.cells #[.bool true,.slice Ab Vb.length mb,.slice Db Rb.length ob] 29)) (w.heap.size+1) 29 [.bool true,.slice Aa Va.length ma,.slice Da Ra.length oa]):=(Bk.alloc (by have h:=Bk.new (w.alloc (.cells #[.slice Ap s.ps.length cp,.slice Ac s.cap.length cc,.slice Av s.vot.length cv] 25)) 29 [.bool true,.slice Aa Va.length ma,.slice Da Ra.length oa];(try simp only[zK]at h);exact h:Bk ((w.alloc (.cells #[.slice Ap s.ps.length cp,.slice Ac s.cap.length cc,.slice Av s.vot.length cv] 25)).alloc (.cells #[.bool true,.slice Aa Va.length ma,.slice Da Ra.length oa] 29)) (w.heap.size+1) 29 [.bool true,.slice Aa Va.length ma,.slice Da Ra.length oa]) (.cells #[.bool true,.slice Ab Vb.length mb,.slice Db Rb.length ob] 29));have ba:Hid (Bk (((w.alloc (.cells #[.slice Ap s.ps.length cp,.slice Ac s.cap.length cc,.slice Av s.vot.length cv] 25)).alloc (.cells #[.bool true,.slice Aa Va.length ma,.slice Da Ra.length oa] 29)).alloc (.cells #[.bool true,.slice Ab Vb.length mb,.slice Db Rb.length ob] 29)) (w.heap.size+1+1) 29 [.bool true,.slice Ab Vb.length mb,.slice Db Rb.length ob]):=(by have h:=Bk.new ((w.alloc (.cells #[.slice Ap s.ps.length cp,.slice Ac s.cap.length cc,.slice Av s.vot.length cv] 25)).alloc (.cells #[.bool true,.slice Aa Va.length ma,.slice Da Ra.length oa] 29)) 29 [.bool true,.slice Ab Vb.length mb,.slice Db Rb.length ob];(try simp only[zK]at h);exact h:Bk (((w.alloc (.cells #[.slice Ap s.ps.length cp,.slice Ac s.cap.length cc,.slice Av s.vot.length cv] 25)).alloc (.cells #[.bool true,.slice Aa Va.length ma,.slice Da Ra.length oa] 29)).alloc (.cells #[.bool true,.slice Ab Vb.length mb,.slice Db Rb.length ob] 29)) (w.heap.size+1+1) 29 [.bool true,.slice Ab Vb.length mb,.slice Db Rb.length ob]);replace hE:=zh hE;replace hs:=zh hs;replace hF:=zh hF;replace aO:=zh aO;replace aP:=zh aP;go_enter Tryz.func3,Tryz.ntmps3
 go_wp2_with fail
 refine(EB _ (hE.o.below aV.o)).mono ?_;rintro e w2 ⟨rfl,hb⟩;have aI:=zh (bo.o.below hb);have aM:=zh (aV.o.trans (hb.mono aV.o.size));have aj:=zh (a6.o.below hb);have bb:=zh (ba.o.below hb);clear hb bo aV a6 ba;have u0:=aI.o.c0;have u1:=aI.o.c1;have u2:=aI.o.c2;have u9:=aI.o.lt;have ax:=aj.o.c0;have ag:=aj.o.c1;have aD:=aj.o.c2;have d:=aj.o.lt;have kf:=zh (Kw s Ap Ac Av Aa Da cp cc cv cf ma oa Af F true Va Ra w2 (hs.o.below aM.o) aW (aO.o.below aM.o))
 go_wp2_with fail
 refine kf.o.mono ?_;rintro e w3 ⟨⟨r,rfl,hr⟩,hb⟩;have bp:=zh (aI.o.below hb);have aN:=zh (aM.o.trans (hb.mono aM.o.size));have a7:=zh (aj.o.below hb);have am:=zh (bb.o.below hb);clear hb aI aM aj bb;clear u0 u1 u2 u9;clear ax ag aD d;clear kf;replace hr:=zh hr
 cases r with
 |false=>
  go_wp2;go_ret;exact⟨rfl,aN.o⟩
 |true=>
  obtain⟨aL,bH,a5⟩:=hr.o rfl;replace aL:=zh aL;replace a5:=zh a5;clear hr;have ay:=am.o.c0;have ah:=am.o.c1;have az:=am.o.c2;have ai:=am.o.lt;have kf:=zh (Hz true Ab Db mb ob Vb Rb w3 (aP.o.below aN.o))
  go_wp2_with fail
  refine kf.o.mono ?_;rintro e w4 ⟨⟨r,rfl,hr⟩,hb⟩;have aJ:=zh (bp.o.below hb);have aA:=zh (aN.o.trans (hb.mono aN.o.size));have ak:=zh (a7.o.below hb);have an:=zh (am.o.below hb);clear hb bp aN a7 am;clear ay ah az ai;clear kf;replace hr:=zh hr
  cases r with
  |false=>
   go_wp2;go_ret;exact⟨rfl,aA.o⟩
  |true=>
   have bI:=zh (hr.o rfl);clear hr;have u0:=aJ.o.c0;have u1:=aJ.o.c1;have u2:=aJ.o.c2;have u9:=aJ.o.lt;have ax:=ak.o.c0;have ag:=ak.o.c1;have aD:=ak.o.c2;have d:=ak.o.lt;have ay:=an.o.c0;have ah:=an.o.c1;have az:=an.o.c2;have ai:=an.o.lt;have kc:=zh (Eq s Ap Ac Av Af Aa Da cp cc cv cf ma oa F true Va Ra w4 (hE.o.below aA.o) (hs.o.below aA.o) (Ep aL.o) (hF.o.below aA.o) aW (aO.o.below aA.o))
   go_wp2_with fail
   refine kc.o.mono ?_;rintro e w5 ⟨⟨r,rfl,hr⟩,hb⟩;have aa:=zh (aJ.o.below hb);have a:=zh (aA.o.trans (hb.mono aA.o.size));have a8:=zh (ak.o.below hb);have ao:=zh (an.o.below hb);clear hb aJ aA ak an;clear u0 u1 u2 u9;clear ax ag aD d;clear ay ah az ai;clear kc;replace hr:=zh hr
   cases r with
   |false=>
    go_wp2;go_ret;exact⟨rfl,a.o⟩
   |true=>
    have aG:=zh (hr.o.1 rfl);clear hr;have u0:=aa.o.c0;have u1:=aa.o.c1;have u2:=aa.o.c2;have u9:=aa.o.lt;have ay:=ao.o.c0;have ah:=ao.o.c1;have az:=ao.o.c2;have ai:=ao.o.lt;have kc:=zh (Eq s Ap Ac Av Af Ab Db cp cc cv cf mb ob F true Vb Rb w5 (hE.o.below a.o) (hs.o.below a.o) (Ep aL.o) (hF.o.below a.o) aW (aP.o.below a.o))
    go_wp2_with fail
    refine kc.o.mono ?_;rintro e w6 ⟨⟨r,rfl,hr⟩,hb⟩;have bq:=zh (aa.o.below hb);have aF:=zh (a.o.trans (hb.mono a.o.size));have al:=zh (a8.o.below hb);have af:=zh (ao.o.below hb);clear hb aa a a8 ao;clear u0 u1 u2 u9;clear ay ah az ai;clear kc;replace hr:=zh hr
    cases r with
    |false=>
     go_wp2;go_ret;exact⟨rfl,aF.o⟩
    |true=>
     have aH:=zh (hr.o.1 rfl);clear hr;have bh:=aG.o.len;have bi:=aH.o.len;have a0:=aG.o.rks;have a1:=aH.o.rks;simp only[ww]at a0 a1;have m1:((Va.length:Int) != (Vb.length:Int))=false:=by rw[zZ];omega
     have m2:(Va.length != Vb.length)=false:=by rw[zZ];omega
     have m3:((Ra.length:Int) != (Rb.length:Int))=false:=by rw[zZ];omega
     have m4:(Ra.length != Rb.length)=false:=by rw[zZ];omega
     have ax:=al.o.c0;have ag:=al.o.c1;have aD:=al.o.c2;have d:=al.o.lt;have ay:=af.o.c0;have ah:=af.o.c1;have az:=af.o.c2;have ai:=af.o.lt;have bd:Hid (w.heap.size+1+1<w6.heap.size):=af.o.lt;obtain⟨w7,aT⟩:∃X,X=w6.alloc (.cells #[.bool true,.slice none 0 0,.slice none 0 0] 29):=⟨_,rfl⟩;have hb:Below w6.heap.size w6 w7:=by rw[aT];exact(zI _ _).alloc (zA _) _
     obtain⟨bc,aS⟩:∃x,x=w6.heap.size:=⟨_,rfl⟩;have bs:Bk w7 bc 29 [.bool true,.slice none 0 0,.slice none 0 0]:=by rw[aT,aS];exact Bk.new _ _ _
     have bF:=zh (bq.o.below hb);have bD:=zh (aF.o.trans (hb.mono aF.o.size));have aR:=zh (al.o.below hb);have br:=zh (af.o.below hb);clear hb bq aF al af;have bt:=zh bs;clear bs;have aK:Hid (w.heap.size+1+1<bc):=by rw[aS];exact bd.o
     clear bd;obtain⟨f,hf⟩:∃f,f=jnV true (AY Va) (AY Vb):=⟨_,rfl⟩;have bn:Hid (JV w7 w7 bc (.bool true) (.slice none 0 0) f none 0 0):=JV.start bt.o;obtain⟨i0,aZ,bA⟩:=Option.map_eq_some_iff.1 infoQ;simp only[Prod.mk.injEq]at bA;obtain⟨a2,a3,a4⟩:=bA;replace aZ:=zh aZ;replace a2:=zh a2;replace a3:=zh a3;replace a4:=zh a4;replace hf:=zh hf;have bO:=hs.o.np;have bN:=Oz aL.o
     go_wp2_with fail
     rw[<-aT];rw[<-aS];replace aT:=zh aT;replace aS:=zh aS;clear ax ag aD d;clear ay ah az ai;clear m1 m2 m3 m4;have bJ:Va.length<=s.ps.length:=ye bh;have bK:s.ps.length<=Va.length:=ye bh.symm;clear bh;have bL:Vb.length<=s.ps.length:=ye bi;have bM:s.ps.length<=Vb.length:=ye bi.symm;clear bi;have bP:Ra.length<=0:=ye a0;have bQ:0<=Ra.length:=ye a0.symm;clear a0;have bR:Rb.length<=0:=ye a1;have bS:0<=Rb.length:=ye a1.symm;clear a1
     go_loopw [11] (fun ix wr=>∃(p:Nat)(A2:Option Addr)(c2:Nat),p<=s.ps.length/\ix=.int .i64 (p:Int)/\Hid (JV w7 wr bc (.bool true) (.slice none 0 0) f A2 c2 p)) (fun ix _=>s.ps.length-(intOf ix).toNat)
     case atStart=>exact⟨0,none,0,zP _,rfl,bn⟩
     case round=>
      clear bn;obtain⟨p,A2,c2,hp,rfl,hJ⟩:=hrel;obtain⟨wp,rfl⟩:∃z,z=wr:=⟨_,rfl⟩;have aB:Hid (Below w.heap.size w wp):=hJ.o.kp.to_below bD.o (fun x hx=>by have:=aK.o;simp at hx;omega);have ae:=zh (aR.o.kp hJ.o.kp (by have:=aK.o;simp;omega));have aE:=zh (br.o.kp hJ.o.kp (by have:=aK.o;simp;omega))
      by_cases hpn:p<s.ps.length
      .have j0:(0:Int)<=(p:Int):=by omega
       have j1:(p:Int)<(Va.length:Int):=by omega
       have j2:(p:Int)<(Vb.length:Int):=by omega
       have ax:=ae.o.c0;have ag:=ae.o.c1;have aD:=ae.o.c2;have d:=ae.o.lt;have ay:=aE.o.c0;have ah:=aE.o.c1;have az:=aE.o.c2;have ai:=aE.o.lt;obtain⟨oa,fa,bB,x9,hx⟩:=(aO.o.below aB.o).row (by omega);subst bB;obtain⟨x0,x1,x2⟩:=hx p (by omega);have ex:=aG.o.raw (p:=p) (by omega);rw[ex]at x0 x1 x2;clear hx ex;obtain⟨ob,fb,bC,z9,hz⟩:=(aP.o.below aB.o).row (by omega);subst bC;obtain⟨z0,z1,z2⟩:=hz p (by omega);have ez:=aH.o.raw (p:=p) (by omega);rw[ez]at z0 z1 z2;clear hz ez;have sx:=aG.o.short p;have sy:=aH.o.short p;have au:f p=if decide (AY Va p<=AY Vb p)=true then AY Va p else AY Vb p:=by rw[hf.o];rfl
       obtain⟨qx,bw⟩:∃q,q=AY Va p:=⟨_,rfl⟩;obtain⟨qz,bx⟩:∃q,q=AY Vb p:=⟨_,rfl⟩;rw[<-bw]at x0 x1 x2 sx au;rw[<-bx]at z0 z1 z2 sy au;clear bw bx;obtain⟨t,ht⟩:∃t,t=decide (qx<=qz):=⟨_,rfl⟩;rw[<-ht]at au;have kl:Hid (∀W,Env W->Calls Tryz.prog 9 #[.agg #[.bool (rq (qx)).1,.string (rq (qx)).2.1,.string (rq (qx)).2.2],.agg #[.bool (rq (qz)).1,.string (rq (qz)).2.1,.string (rq (qz)).2.2]] W fun e w'=>e=.returned (.bool t)/\Below W.heap.size W w'):=fun W hW=>by have h:=Hc qx qz sx sy W hW;rw[<-ht]at h;exact h
       clear sx sy ht;replace au:=zh au;have HT:Hid (∀W,Below wp.heap.size wp W->(fun W=>W.cell? ⟨w.heap.size+1,1,none⟩=some (.slice (some ⟨oa,fa,none⟩) Va.length ma)/\W.cell? ⟨w.heap.size+1+1,1,none⟩=some (.slice (some ⟨ob,fb,none⟩) Vb.length mb)/\W.cell? ⟨oa,fa+p*3,none⟩=some (.bool (rq (qx)).1)/\W.cell? ⟨oa,fa+p*3+1,none⟩=some (.string (rq (qx)).2.1)/\W.cell? ⟨oa,fa+p*3+2,none⟩=some (.string (rq (qx)).2.2)/\W.cell? ⟨ob,fb+p*3,none⟩=some (.bool (rq (qz)).1)/\W.cell? ⟨ob,fb+p*3+1,none⟩=some (.string (rq (qz)).2.1)/\W.cell? ⟨ob,fb+p*3+2,none⟩=some (.string (rq (qz)).2.2)) W):=fun W h=>⟨(h.cell (p:=⟨w.heap.size+1,1,none⟩) d).trans ag,(h.cell (p:=⟨w.heap.size+1+1,1,none⟩) ai).trans ah,(h.cell (p:=⟨oa,fa+p*3,none⟩) x9).trans x0,(h.cell (p:=⟨oa,fa+p*3+1,none⟩) x9).trans x1,(h.cell (p:=⟨oa,fa+p*3+2,none⟩) x9).trans x2,(h.cell (p:=⟨ob,fb+p*3,none⟩) z9).trans z0,(h.cell (p:=⟨ob,fb+p*3+1,none⟩) z9).trans z1,(h.cell (p:=⟨ob,fb+p*3+2,none⟩) z9).trans z2⟩;clear x0 x1 x2 x9 z0 z1 z2 z9
       go_wp2_with fail
       clear ax ag aD d ay ah az ai;refine Wy (w.heap.size+1) (w.heap.size+1+1) oa fa ob fb Va.length ma Vb.length mb p _ _ _ _ _ _ wp HT.o (by omega) (by omega) ?_;intro _ _ _ _ _ _ _ _ _ _ wq xb zb hx hz hb bG;clear HT;have a9:=zh (ae.o.below hb.o);have HT:Hid (∀W,Below wq.heap.size wq W->(fun W=>W.cell? ⟨xb,0,none⟩=some (.bool (rq (qx)).1)/\W.cell? ⟨xb,1,none⟩=some (.string (rq (qx)).2.1)/\W.cell? ⟨xb,2,none⟩=some (.string (rq (qx)).2.2)/\W.cell? ⟨zb,0,none⟩=some (.bool (rq (qz)).1)/\W.cell? ⟨zb,1,none⟩=some (.string (rq (qz)).2.1)/\W.cell? ⟨zb,2,none⟩=some (.string (rq (qz)).2.2)/\W.cell? ⟨w.heap.size+1,0,none⟩=some (.bool true)) W):=fun W h=>⟨(hx.o.below h).c0,(hx.o.below h).c1,(hx.o.below h).c2,(hz.o.below h).c0,(hz.o.below h).c1,(hz.o.below h).c2,(a9.o.below h).c0⟩;have bm:Hid (∀W,Below wq.heap.size wq W->Env W):=fun W h=>hE.o.below ((aB.o.trans (hb.o.mono aB.o.size)).trans (h.mono (aB.o.trans (hb.o.mono aB.o.size)).size))
       go_wp2_with fail
       refine Be (by kernel_rfl) (by kernel_rfl) ?_
       repeat (
        with_reducible refine wR (fun K hK=>?_)
        first
         |(refine BM (by rfl) ?_;refine hK _ ?_;clear hK K;(try simp only[Act.put,zB,zE,zC]))
         |(refine BN (by rfl) ?_
           go_simp;apply Exists.intro;refine⟨fun W hW=>?_,hK _ ?_⟩
           first
            |(with_reducible exact AC hW (kl.o W (bm.o W hW)))
            |(obtain⟨q1,q2,q3,q4,q5,q6,q7⟩:=HT.o W hW;go_simp<;>with_reducible rfl)
           clear hK K))
       refine wX ?_;intro wf aY;have bu:Hid (Below wp.heap.size wp wf):=hb.o.trans (aY.mono hb.o.size);have av:=zh (hx.o.below aY);have aU:=zh (hz.o.below aY);clear HT bm kl aY hx hz hb a9
       cases t with
       |false=>
        (try simp only[vF])
        have bf:Hid (f p=qz):=by rw[au.o];rfl
        clear au;have r0:=av.o.c0;have z0:=aU.o.c0;have f0:=av.o.frozen 0;have r1:=av.o.c1;have z1:=aU.o.c1;have f1:=av.o.frozen 1;have r2:=av.o.c2;have z2:=aU.o.c2;have f2:=av.o.frozen 2;have r9:=av.o.lt;have z9:=aU.o.lt;have hj:=zh (hJ.o.below (ED bu.o bG.o.1 (.bool (rq (qz)).1) (.string (rq (qz)).2.1) (.string (rq (qz)).2.2)));have aw:=zh (Dl av.o (.bool (rq (qz)).1) (.string (rq (qz)).2.1) (.string (rq (qz)).2.2));have x0:=aw.o.c0;have x1:=aw.o.c1;have x2:=aw.o.c2;have x9:=aw.o.lt;have b1:=hj.o.blk.c1;have b9:=hj.o.blk.lt;have aC:Hid (JV w7 ((((wf.setCell ⟨xb,0,none⟩ (.bool (rq (qz)).1)).setCell ⟨xb,1,none⟩ (.string (rq (qz)).2.1)).setCell ⟨xb,2,none⟩ (.string (rq (qz)).2.2)).alloc (.cells #[.bool (rq (qz)).1,.string (rq (qz)).2.1,.string (rq (qz)).2.2] 34)) bc (.bool true) (.slice none 0 0) f A2 c2 p):=hj.o.below ((zI _ _).alloc (zA _) _);have bz:(((wf.setCell ⟨xb,0,none⟩ (.bool (rq (qz)).1)).setCell ⟨xb,1,none⟩ (.string (rq (qz)).2.1)).setCell ⟨xb,2,none⟩ (.string (rq (qz)).2.2)).heap.size=wf.heap.size:=by simp[World.setCell]
        have bj:Hid (∀j u,(BK (rq qz))[j]? = some u->((((wf.setCell ⟨xb,0,none⟩ (.bool (rq (qz)).1)).setCell ⟨xb,1,none⟩ (.string (rq (qz)).2.1)).setCell ⟨xb,2,none⟩ (.string (rq (qz)).2.2)).alloc (.cells #[.bool (rq (qz)).1,.string (rq (qz)).2.1,.string (rq (qz)).2.2] 34)).cell? (Addr.add ⟨wf.heap.size,0,none⟩ j)=some u):=by have h:=C3 (((wf.setCell ⟨xb,0,none⟩ (.bool (rq (qz)).1)).setCell ⟨xb,1,none⟩ (.string (rq (qz)).2.1)).setCell ⟨xb,2,none⟩ (.string (rq (qz)).2.2)) (rq qz).1 (rq qz).2.1 (rq qz).2.2 34;rw[bz]at h;exact h
        clear bz;have bk:Hid (w7.heap.size<=((((wf.setCell ⟨xb,0,none⟩ (.bool (rq (qz)).1)).setCell ⟨xb,1,none⟩ (.string (rq (qz)).2.1)).setCell ⟨xb,2,none⟩ (.string (rq (qz)).2.2)).alloc (.cells #[.bool (rq (qz)).1,.string (rq (qz)).2.1,.string (rq (qz)).2.2] 34)).heap.size):=aC.o.kp.size
        go_wp2_with (at_builtin;refine Ci.wpList_append_new _ rfl _ _ 27 rfl w7.heap.size 34 i0 (.agg #[.bool false,.string ⟨#[]⟩,.string ⟨#[]⟩]) 3 40 Tryz.underlying27 aZ.o a2.o a3.o a4.o rfl (by decide) (.slice A2 p c2) p (AA p fun i=>rq (f i)) rfl aC.o.vals ⟨wf.heap.size,0,none⟩ 1 1 (BK (rq qz)) rfl rfl bj.o (BO _) (by omega) (by unfold maxLen;omega) (by omega) bk.o ?_;intro v9 wa ho hg hn;obtain⟨A9,d9,e9,bg,aq,ar⟩:=aC.o.app (by rw[bf.o];exact ho) hg;subst e9;have g1:=aq.c1;have gf:=aq.frozen 1;have g9:=aq.lt;have ad:=(aR.o.kp ar.kp (by have:=aK.o;simp;omega));have ax:=ad.c0;have d:=ad.lt;replace ar:=zh ar;clear ho hg hn bg aq ad)
        exact⟨⟨p+1,A9,d9,by omega,by go_num,ar⟩,by simp only[intOf];omega⟩
       |true=>
        (try simp only[vr])
        have bf:Hid (f p=qx):=by rw[au.o];rfl
        clear au aU;have hj:=zh (hJ.o.below bu.o);have aw:=zh av.o;have x0:=aw.o.c0;have x1:=aw.o.c1;have x2:=aw.o.c2;have x9:=aw.o.lt;have b1:=hj.o.blk.c1;have b9:=hj.o.blk.lt;have aC:Hid (JV w7 (wf.alloc (.cells #[.bool (rq (qx)).1,.string (rq (qx)).2.1,.string (rq (qx)).2.2] 34)) bc (.bool true) (.slice none 0 0) f A2 c2 p):=hj.o.below ((zI _ _).alloc (zA _) _);have bj:Hid (∀j u,(BK (rq qx))[j]? = some u->(wf.alloc (.cells #[.bool (rq (qx)).1,.string (rq (qx)).2.1,.string (rq (qx)).2.2] 34)).cell? (Addr.add ⟨wf.heap.size,0,none⟩ j)=some u):=by have h:=C3 wf (rq qx).1 (rq qx).2.1 (rq qx).2.2 34;exact h
        have bk:Hid (w7.heap.size<=(wf.alloc (.cells #[.bool (rq (qx)).1,.string (rq (qx)).2.1,.string (rq (qx)).2.2] 34)).heap.size):=aC.o.kp.size
        go_wp2_with (at_builtin;refine Ci.wpList_append_new _ rfl _ _ 27 rfl w7.heap.size 34 i0 (.agg #[.bool false,.string ⟨#[]⟩,.string ⟨#[]⟩]) 3 40 Tryz.underlying27 aZ.o a2.o a3.o a4.o rfl (by decide) (.slice A2 p c2) p (AA p fun i=>rq (f i)) rfl aC.o.vals ⟨wf.heap.size,0,none⟩ 1 1 (BK (rq qx)) rfl rfl bj.o (BO _) (by omega) (by unfold maxLen;omega) (by omega) bk.o ?_;intro v9 wa ho hg hn;obtain⟨A9,d9,e9,bg,aq,ar⟩:=aC.o.app (by rw[bf.o];exact ho) hg;subst e9;have g1:=aq.c1;have gf:=aq.frozen 1;have g9:=aq.lt;have ad:=(aR.o.kp ar.kp (by have:=aK.o;simp;omega));have ax:=ad.c0;have d:=ad.lt;replace ar:=zh ar;clear ho hg hn bg aq ad)
        exact⟨⟨p+1,A9,d9,by omega,by go_num,ar⟩,by simp only[intOf];omega⟩
      obtain rfl:p=s.ps.length:=by omega
      have aQ:=zh (bF.o.kp hJ.o.kp (by have:=aK.o;simp;omega));have hV:=zh (LF hJ.o.vals);have be:=zh (O0 (n:=s.ps.length) (f:=f) fun p _=>by rw[hf.o];exact LE (aG.o.short p) (aH.o.short p));have kf:Hid (Calls Tryz.prog 10 #[.slice A2 s.ps.length c2] wp fun e w'=>e=.returned (.bool (Cl (AO s.ps.length f)))/\Below wp.heap.size wp w'):=by have h:=JD A2 c2 (AO s.ps.length f) wp hV.o (by rw[Ag];omega) be.o;rw[Ag]at h;exact h
      obtain⟨t,ht⟩:∃t,t=Cl (AO s.ps.length f):=⟨_,rfl⟩;rw[<-ht]at kf;replace ht:=zh ht;have u0:=aQ.o.c0;have b0:=hJ.o.blk.c0;have u1:=aQ.o.c1;have b1:=hJ.o.blk.c1;have u2:=aQ.o.c2;have b2:=hJ.o.blk.c2;have u9:=aQ.o.lt;have b9:=hJ.o.blk.lt;have ag:=ae.o.c1;have d:=ae.o.lt;have jn:¬(s.ps.length:Int)<(Va.length:Int):=by omega
      have jm:decide ((s.ps.length:Int)<(Va.length:Int))=false:=zD jn;have jo:decide (s.ps.length<Va.length)=false:=zD (by omega)
      go_wp2_with fail
      refine kf.o.mono ?_;rintro e w5 ⟨rfl,hb⟩;have a:=zh (aB.o.trans (hb.mono aB.o.size));have aa:=zh (aQ.o.below hb);have bE:=zh (hV.o.below hb (zA _));have aX:=zh (hJ.o.below hb);clear hb kf u0 u1 u2 u9 b0 b1 b2 b9 ag d jn jm jo
      cases t with
      |false=>
       go_wp2;go_ret;exact⟨rfl,a.o⟩
      |true=>
       have u0:=aa.o.c0;have b0:=aX.o.blk.c0;have u1:=aa.o.c1;have b1:=aX.o.blk.c1;have u2:=aa.o.c2;have b2:=aX.o.blk.c2;have u9:=aa.o.lt;have b9:=aX.o.blk.lt
       have kc:Hid (Calls Tryz.prog 8 #[.agg #[.slice Ap s.ps.length cp,.slice Ac s.cap.length cc,.slice Av s.vot.length cv],.slice Af F.length cf,.agg #[.bool true,.slice A2 s.ps.length c2,.slice none 0 0]] w5 fun e w'=>e=.returned (.bool true)/\Below w5.heap.size w5 w'):=by
        have h:=Eq s Ap Ac Av Af A2 none cp cc cv cf c2 0 F true (AO s.ps.length f) [] w5 (hE.o.below a.o) (hs.o.below a.o) (Ep aL.o) (hF.o.below a.o) aW ⟨bE.o,UA _,by rw[Ag];omega,by decide,be.o⟩;rw[Ag]at h;refine h.mono fun e w' hh=>?_;obtain⟨⟨r9,e1,e2⟩,hb⟩:=hh;have bv:=LD aG.o aH.o (by rw[<-hf.o];exact ht.o.symm);rw[<-hf.o]at bv;rw[e2.2 bv]at e1;exact⟨e1,hb⟩
       go_wp2_with fail
       refine kc.o.mono ?_;rintro e w6 ⟨rfl,hb⟩;have aF:=zh (a.o.trans (hb.mono a.o.size));clear hb kc;go_wp2;go_ret;exact⟨rfl,aF.o⟩
end Bd
end Go.Proofs.YtmfjbpcecpgchaaGreatDoor

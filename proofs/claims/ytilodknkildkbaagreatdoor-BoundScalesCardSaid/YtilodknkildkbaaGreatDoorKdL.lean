/- Texts that the proof needs: LawBScalesU. -/
import Derived.Test.YtilodknkildkbaaGreatDoorKdK
set_option maxHeartbeats 16000000
set_option maxRecDepth 100000
namespace Go.Proofs.YtilodknkildkbaaGreatDoor
open Go.RowKit Go.Shelf
namespace Bd
open Nt Ci Sh
theorem Uu:rq (byQ true)=(false,⟨#[50]⟩,⟨#[49]⟩):=by decide +kernel
theorem IE (s:SR) (Ap Ac Av Af:Option Addr) (cp cc cv cf:Nat) (F:List Int) (Aq Dq:Option Addr) (mq oq:Nat) (Vq:List Raw) (Rq:List Int) (w:World) (hE:Env w) (hs:StIn w s Ap Ac Av) (hF:InInt w Af F) (aU:F.length<=140737488355328) (ar:CIn w Aq Dq Vq Rq) :
 Calls Tryz.prog 8 #[.agg #[.slice Ap s.ps.length cp,.slice Ac s.cap.length cc,.slice Av s.vot.length cv],.slice Af F.length cf,.agg #[.bool true,.slice Aq Vq.length mq,.slice Dq Rq.length oq]] w fun e w'=>e=.returned (.bool true)/\Below w.heap.size w w':=by
 have aF:Hid (Below w.heap.size w ((w.alloc (.cells #[.slice Ap s.ps.length cp,.slice Ac s.cap.length cc,.slice Av s.vot.length cv] 25)).alloc (.cells #[.bool true,.slice Aq Vq.length mq,.slice Dq Rq.length oq] 29))):=((Below.refl _ w).alloc (Nat.le_refl _) _).alloc (by simp) _;have a7:Hid (Bk ((w.alloc (.cells #[.slice Ap s.ps.length cp,.slice Ac s.cap.length cc,.slice Av s.vot.length cv] 25)).alloc (.cells #[.bool true,.slice Aq Vq.length mq,.slice Dq Rq.length oq] 29)) w.heap.size 25 (SC s Ap Ac Av cp cc cv)):=((Bk.new w 25 [.slice Ap s.ps.length cp,.slice Ac s.cap.length cc,.slice Av s.vot.length cv]).alloc (.cells #[.bool true,.slice Aq Vq.length mq,.slice Dq Rq.length oq] 29));have aO:Hid (Bk ((w.alloc (.cells #[.slice Ap s.ps.length cp,.slice Ac s.cap.length cc,.slice Av s.vot.length cv] 25)).alloc (.cells #[.bool true,.slice Aq Vq.length mq,.slice Dq Rq.length oq] 29)) (w.heap.size+1) 29 [.bool true,.slice Aq Vq.length mq,.slice Dq Rq.length oq]):=(by have h:=Bk.new (w.alloc (.cells #[.slice Ap s.ps.length cp,.slice Ac s.cap.length cc,.slice Av s.vot.length cv] 25)) 29 [.bool true,.slice Aq Vq.length mq,.slice Dq Rq.length oq];(try simp only[World.size_alloc]at h);exact h:Bk ((w.alloc (.cells #[.slice Ap s.ps.length cp,.slice Ac s.cap.length cc,.slice Av s.vot.length cv] 25)).alloc (.cells #[.bool true,.slice Aq Vq.length mq,.slice Dq Rq.length oq] 29)) (w.heap.size+1) 29 [.bool true,.slice Aq Vq.length mq,.slice Dq Rq.length oq]);replace hE:=zh hE;replace hs:=zh hs;replace hF:=zh hF;replace ar:=zh ar;go_enter Tryz.func8,Tryz.ntmps8
 go_wp2_with fail
 refine(Iu _ (hE.out.below aF.out)).mono ?_;rintro e w2 ⟨rfl,hb⟩;have au:=zh (a7.out.below hb);have aw:=zh (aF.out.trans (hb.mono aF.out.size));have ae:=zh (aO.out.below hb);clear hb a7 aF aO;have u0:=au.out.c0;have u1:=au.out.c1;have u2:=au.out.c2;have u9:=au.out.lt;have am:=ae.out.c0;have aa:=ae.out.c1;have an:=ae.out.c2;have ad:=ae.out.lt;have kf:=zh (SK s Ap Ac Av Aq Dq cp cc cv cf mq oq Af F true Vq Rq w2 (hs.out.below aw.out) aU (ar.out.below aw.out))
 go_wp2_with fail
 refine kf.out.mono ?_;rintro e w3 ⟨⟨r,rfl,hr⟩,hb⟩;have av:=zh (au.out.below hb);have aj:=zh (aw.out.trans (hb.mono aw.out.size));have af:=zh (ae.out.below hb);clear hb au aw ae;clear u0 u1 u2 u9;clear am aa an ad;clear kf;replace hr:=zh hr
 cases r with
 | false =>
   go_wp2;go_ret;exact⟨rfl,aj.out⟩
 | true =>
   obtain⟨aD,bC,aL⟩:=hr.out rfl;replace aD:=zh aD;replace aL:=zh aL;clear hr;have u0:=av.out.c0;have u1:=av.out.c1;have u2:=av.out.c2;have u9:=av.out.lt;have am:=af.out.c0;have aa:=af.out.c1;have an:=af.out.c2;have ad:=af.out.lt;have kc:=zh (Gf s Ap Ac Av Af Aq Dq cp cc cv cf mq oq F true Vq Rq w3 (hE.out.below aj.out) (hs.out.below aj.out) (Ge aD.out) (hF.out.below aj.out) aU (ar.out.below aj.out))
   go_wp2_with fail
   refine kc.out.mono ?_;rintro e w4 ⟨⟨r,rfl,hr⟩,hb⟩;have a8:=zh (av.out.below hb);have aG:=zh (aj.out.trans (hb.mono aj.out.size));have ag:=zh (af.out.below hb);clear hb av aj af;clear u0 u1 u2 u9;clear am aa an ad;clear kc;replace hr:=zh hr
   cases r with
   | false =>
     go_wp2;go_ret;exact⟨rfl,aG.out⟩
   | true =>
     have aJ:=zh (hr.out.1 rfl);clear hr;have am:=ag.out.c0;have aa:=ag.out.c1;have an:=ag.out.c2;have ad:=ag.out.lt
     go_wp2_with fail
     clear am aa an ad;refine(BD ⟨#[49]⟩ ⟨#[50]⟩ w4).mono ?_;rintro e w5 ⟨rfl,hb⟩;have al:=zh (a8.out.below hb);have d:=zh (aG.out.trans (hb.mono aG.out.size));have ao:=zh (ag.out.below hb);clear hb a8 aG ag;have aQ:Hid (w.heap.size+1<w5.heap.size):=ao.out.lt;have zYq:=ao.out.alloc (.cells #[.bool false,.string ⟨#[49]⟩,.string ⟨#[50]⟩] 40);have zYq0:=zYq.c0;have zYq1:=zYq.c1;have zYq2:=zYq.c2;have zYq9:=zYq.lt;clear zYq;obtain⟨w6,aE⟩:∃X,X=w5.alloc (.cells #[.bool false,.string ⟨#[49]⟩,.string ⟨#[50]⟩] 40):=⟨_,rfl⟩;have hb:Below w5.heap.size w5 w6:=by rw[aE];exact(Below.refl _ _).alloc (Nat.le_refl _) _
     obtain⟨bh,aC⟩:∃x,x=w5.heap.size:=⟨_,rfl⟩;have bb:Bk w6 bh 40 [.bool false,.string ⟨#[49]⟩,.string ⟨#[50]⟩]:=by rw[aE,aC];exact Bk.new _ _ _
     have a9:=zh (al.out.below hb);have ax:=zh (d.out.trans (hb.mono d.out.size));have aP:=zh (ao.out.below hb);clear hb al d ao;have aM:=zh bb;clear bb;have aK:Hid (w.heap.size+1<bh):=by rw[aC];exact aQ.out
     clear aQ
     go_wp2_with fail
     rw[<-aE];rw[<-aC];replace aE:=zh aE;replace aC:=zh aC;clear zYq0 zYq1 zYq2 zYq9;refine(BD ⟨#[50]⟩ ⟨#[49]⟩ w6).mono ?_;rintro e w7 ⟨rfl,hb⟩;have bs:=zh (a9.out.below hb);have bo:=zh (ax.out.trans (hb.mono ax.out.size));have bf:=zh (aP.out.below hb);have a:=zh (aM.out.below hb);clear hb a9 ax aP aM;have c0:=a.out.c0;have f0:=a.out.frozen 0;have c1:=a.out.c1;have f1:=a.out.frozen 1;have c2:=a.out.c2;have f2:=a.out.frozen 2;have c9:=a.out.lt;have a2:Hid (w.heap.size<=bh):=by have:=aK.out;unfold Hid;omega
     have aS:Hid (Below w.heap.size w (((w7.setCell ⟨bh,0,none⟩ (.bool false)).setCell ⟨bh,1,none⟩ (.string ⟨#[50]⟩)).setCell ⟨bh,2,none⟩ (.string ⟨#[49]⟩))):=Ng bo.out a2.out _ _ _;have ai:Hid (Bk (((w7.setCell ⟨bh,0,none⟩ (.bool false)).setCell ⟨bh,1,none⟩ (.string ⟨#[50]⟩)).setCell ⟨bh,2,none⟩ (.string ⟨#[49]⟩)) (w.heap.size+1) 29 [.bool true,.slice Aq Vq.length mq,.slice Dq Rq.length oq]):=Oc bf.out (by have:=aK.out;omega) _ _ _;have ba:Hid (Bk (((w7.setCell ⟨bh,0,none⟩ (.bool false)).setCell ⟨bh,1,none⟩ (.string ⟨#[50]⟩)).setCell ⟨bh,2,none⟩ (.string ⟨#[49]⟩)) w.heap.size 25 (SC s Ap Ac Av cp cc cv)):=Oc bs.out (by have:=aK.out;omega) _ _ _;have aN:Hid (Bk (((w7.setCell ⟨bh,0,none⟩ (.bool false)).setCell ⟨bh,1,none⟩ (.string ⟨#[50]⟩)).setCell ⟨bh,2,none⟩ (.string ⟨#[49]⟩)) bh 40 [.bool false,.string ⟨#[50]⟩,.string ⟨#[49]⟩]):=Ki a.out _ _ _;have z0:=ai.out.c0;have z1:=ai.out.c1;have z2:=ai.out.c2;have z9:=ai.out.lt;obtain⟨wm,ak⟩:∃X,X=((((w7.setCell ⟨bh,0,none⟩ (.bool false)).setCell ⟨bh,1,none⟩ (.string ⟨#[50]⟩)).setCell ⟨bh,2,none⟩ (.string ⟨#[49]⟩)).alloc (.cells #[.bool true,.slice none 0 0,.slice Dq Rq.length oq] 29)):=⟨_,rfl⟩;obtain⟨bd,aB⟩:∃x,x=w7.heap.size:=⟨_,rfl⟩;have a1:(((w7.setCell ⟨bh,0,none⟩ (.bool false)).setCell ⟨bh,1,none⟩ (.string ⟨#[50]⟩)).setCell ⟨bh,2,none⟩ (.string ⟨#[49]⟩)).heap.size=w7.heap.size:=by simp[World.setCell]
     have bp:Hid (Below w.heap.size w wm):=by rw[ak];exact aS.out.alloc aS.out.size _
     have bg:Hid (Bk wm (w.heap.size+1) 29 [.bool true,.slice Aq Vq.length mq,.slice Dq Rq.length oq]):=by rw[ak];exact ai.out.alloc _
     have bt:Hid (Bk wm w.heap.size 25 (SC s Ap Ac Av cp cc cv)):=by rw[ak];exact ba.out.alloc _
     have be:Hid (Bk wm bh 40 [.bool false,.string ⟨#[50]⟩,.string ⟨#[49]⟩]):=by rw[ak];exact aN.out.alloc _
     have bq:Hid (Bk wm bd 29 [.bool true,.slice none 0 0,.slice Dq Rq.length oq]):=by rw[ak,aB,<-a1];exact Bk.new _ _ _
     have bu:Hid (bh<bd):=by rw[aB];exact a.out.lt
     go_wp2_with fail
     (try rw[a1])
     rw[<-ak,<-aB];clear z0 z1 z2 z9 c0 c1 c2 c9 f0 f1 f2 a1 a2 aS ai ba aN;replace ak:=zh ak;replace aB:=zh aB;obtain⟨f,hf⟩:∃f,f=fun p=>BJ Vq p*byQ true:=⟨_,rfl⟩;have a6:Hid (JV wm wm bd (.bool true) (.slice Dq Rq.length oq) f none 0 0):=JV.start bq.out;obtain⟨i0,aY,bm⟩:=Option.map_eq_some_iff.1 infoQ;simp only[Prod.mk.injEq]at bm;obtain⟨a3,a4,a5⟩:=bm;replace aY:=zh aY;replace a3:=zh a3;replace a4:=zh a4;replace a5:=zh a5;replace hf:=zh hf;have bE:=hs.out.np;have bD:=Oa aD.out;have a0:=zh aJ.out.len;obtain⟨bv,DD,aT⟩:=CN aJ.out.fits;clear bv;have aW:Dg 1 (byQ true):=by unfold Dg byQ;decide +kernel
     have bA:Hid (∀p,ShortQ (BJ Vq p)):=fun p=>aT.short p;have bz:Hid (∀p,ShortQ (f p)):=fun p=>by rw[hf.out];exact((aT.dg p).mul aW).short (by decide)
     have bx:Hid (ShortQ (byQ true)):=aW.short (by decide);clear aT aW
     go_loopw [10] (fun ix wr=>∃(p:Nat) (A2:Option Addr) (c2:Nat),p<=s.ps.length/\ix=.int .i64 (p:Int)/\Hid (JV wm wr bd (.bool true) (.slice Dq Rq.length oq) f A2 c2 p)) (fun ix _=>s.ps.length-(intOf ix).toNat)
     case atStart=>exact⟨0,none,0,Nat.zero_le _,rfl,a6⟩
     case round =>
      clear a6;obtain⟨p,A2,c2,hp,rfl,hJ⟩:=hrel;obtain⟨wp,rfl⟩:∃z,z=wr:=⟨_,rfl⟩;have aq:Hid (w.heap.size+1<bh/\bh<bd):=⟨aK.out,bu.out⟩;have ay:Hid (Below w.heap.size w wp):=hJ.out.kp.to_below bp.out (fun x hx=>by have:=aq.out;simp at hx;omega);have ah:=zh (bg.out.kp hJ.out.kp (by have:=aq.out;simp;omega));have aA:=zh (be.out.kp hJ.out.kp (by have:=aq.out;simp;omega))
      by_cases hpn:p<s.ps.length
      · have j0:(0:Int)<=(p:Int):=by omega
        have bF:p<Vq.length:=by have:=a0.out;omega
        have j1:(p:Int)<(Vq.length:Int):=by omega
        have am:=ah.out.c0;have aa:=ah.out.c1;have an:=ah.out.c2;have ad:=ah.out.lt;obtain⟨oa,fa,bn,x9,hx⟩:=(ar.out.below ay.out).row (by omega);subst bn;obtain⟨x0,x1,x2⟩:=hx p (by omega);have ea:=aJ.out.raw (p:=p) (by omega);rw[ea]at x0 x1 x2;clear hx ea;have sx:=bA.out p;have aX:f p=BJ Vq p*byQ true:=by rw[hf.out]
        obtain⟨qx,bk⟩:∃q,q=BJ Vq p:=⟨_,rfl⟩;rw[<-bk]at x0 x1 x2 sx aX;clear bk;have km:∀W,Env W->Calls Tryz.prog 26 #[.agg #[.bool (rq (qx)).1,.string (rq (qx)).2.1,.string (rq (qx)).2.2],.agg #[.bool (rq (byQ true)).1,.string (rq (byQ true)).2.1,.string (rq (byQ true)).2.2]] W fun e w'=>e=.returned (.tuple #[.agg #[.bool (rq (f p)).1,.string (rq (f p)).2.1,.string (rq (f p)).2.2],.int .i64 0])/\Below W.heap.size W w':=fun W hW=>by have h:=Do qx (byQ true) sx bx.out W hW;rw[<-aX]at h;exact h
        rw[Uu]at km;replace km:=zh km;clear sx aX;have HT:Hid (∀W,Below wp.heap.size wp W->(fun W=>W.cell? ⟨w.heap.size+1,1,none⟩=some (.slice (some ⟨oa,fa,none⟩) Vq.length mq)/\W.cell? ⟨oa,fa+p*3,none⟩=some (.bool (rq (qx)).1)/\W.cell? ⟨oa,fa+p*3+1,none⟩=some (.string (rq (qx)).2.1)/\W.cell? ⟨oa,fa+p*3+2,none⟩=some (.string (rq (qx)).2.2)/\W.cell? ⟨bh,0,none⟩=some (.bool false)/\W.cell? ⟨bh,1,none⟩=some (.string ⟨#[50]⟩)/\W.cell? ⟨bh,2,none⟩=some (.string ⟨#[49]⟩)) W):=fun W h=>⟨(h.cell (p:=⟨w.heap.size+1,1,none⟩) ad).trans aa,(h.cell (p:=⟨oa,fa+p*3,none⟩) x9).trans x0,(h.cell (p:=⟨oa,fa+p*3+1,none⟩) x9).trans x1,(h.cell (p:=⟨oa,fa+p*3+2,none⟩) x9).trans x2,(aA.out.below h).c0,(aA.out.below h).c1,(aA.out.below h).c2⟩;clear x0 x1 x2 x9
        go_wp2_with fail
        clear am aa an ad;refine Wj (w.heap.size+1) bh oa fa Vq.length mq p _ _ _ _ _ _ _ _ _ wp HT.out (by omega) (fun W h=>hE.out.below (ay.out.trans (h.mono ay.out.size))) km.out ?_;intro _ _ _ _ _ _ _ _ _ _ wf xb hx hb a2;clear HT km;have hj:=zh (hJ.out.below hb.out);have x0:=hx.out.c0;have x1:=hx.out.c1;have x2:=hx.out.c2;have x9:=hx.out.lt;have b1:=hj.out.blk.c1;have b9:=hj.out.blk.lt;have aZ:Hid (JV wm (wf.alloc (.cells #[.bool (rq (f p)).1,.string (rq (f p)).2.1,.string (rq (f p)).2.2] 40)) bd (.bool true) (.slice Dq Rq.length oq) f A2 c2 p):=hj.out.below ((Below.refl _ _).alloc (Nat.le_refl _) _);have bB:Hid (wm.heap.size<=(wf.alloc (.cells #[.bool (rq (f p)).1,.string (rq (f p)).2.1,.string (rq (f p)).2.2] 40)).heap.size):=aZ.out.kp.size
        go_wp2_with (at_builtin;refine Ci.wpList_append_new _ rfl _ _ 27 rfl wm.heap.size 40 i0 (.agg #[.bool false,.string ⟨#[]⟩,.string ⟨#[]⟩]) 3 40 Tryz.underlying27 aY.out a3.out a4.out a5.out rfl (by decide) (.slice A2 p c2) p (AF p fun i=>rq (f i)) rfl aZ.out.vals _ 1 1 (Eb (rq (f p))) rfl rfl (JH _ _ _ _ _) (FP _) (by omega) (by unfold maxLen;omega) (by omega) bB.out ?_;intro v9 wa ho hg hn;obtain⟨A9,d9,e9,bw,aH,aV⟩:=aZ.out.app ho hg;subst e9;have g1:=aH.c1;have gf:=aH.frozen 1;have g9:=aH.lt;replace aV:=zh aV;clear ho hg hn bw aH)
        go_wp2;exact⟨⟨p+1,A9,d9,by omega,by go_num,aV⟩,by simp only[intOf];omega⟩
      · obtain rfl:p=s.ps.length:=by omega
        have az:=zh (bt.out.kp hJ.out.kp (by have:=aq.out;simp;omega));have hV:=zh (Lu hJ.out.vals);have aR:=zh (Ob (n:=s.ps.length) (f:=f) fun p _=>bz.out p);have kf:Hid (Calls Tryz.prog 24 #[.slice A2 s.ps.length c2] wp fun e w'=>e=.returned (.bool (Cg (AN s.ps.length f)))/\Below wp.heap.size wp w'):=by have h:=J0 A2 c2 (AN s.ps.length f) wp hV.out (by rw[Ag];omega) aR.out;rw[Ag]at h;exact h
        obtain⟨t,ht⟩:∃t,t=Cg (AN s.ps.length f):=⟨_,rfl⟩;rw[<-ht]at kf;replace ht:=zh ht;have u0:=az.out.c0;have b0:=hJ.out.blk.c0;have u1:=az.out.c1;have b1:=hJ.out.blk.c1;have u2:=az.out.c2;have b2:=hJ.out.blk.c2;have u9:=az.out.lt;have b9:=hJ.out.blk.lt;have aa:=ah.out.c1;have ad:=ah.out.lt;have jn:¬(s.ps.length:Int)<(Vq.length:Int):=by have:=a0.out;omega
        have jm:decide ((s.ps.length:Int)<(Vq.length:Int))=false:=decide_eq_false jn;have jo:decide (s.ps.length<Vq.length)=false:=decide_eq_false (by have:=a0.out;omega)
        go_wp2_with fail
        refine kf.out.mono ?_;rintro e w5 ⟨rfl,hb⟩;have d:=zh (ay.out.trans (hb.mono ay.out.size));have al:=zh (az.out.below hb);have br:=zh (hV.out.below hb (Nat.le_refl _));have aI:=zh (hJ.out.below hb);clear hb kf u0 u1 u2 u9 b0 b1 b2 b9 aa ad jn jm jo
        cases t with
        | false =>
          go_wp2;go_ret;exact⟨rfl,d.out⟩
        | true =>
          have u0:=al.out.c0;have b0:=aI.out.blk.c0;have u1:=al.out.c1;have b1:=aI.out.blk.c1;have u2:=al.out.c2;have b2:=aI.out.blk.c2;have u9:=al.out.lt;have b9:=aI.out.blk.lt
          have kc:Hid (Calls Tryz.prog 18 #[.agg #[.slice Ap s.ps.length cp,.slice Ac s.cap.length cc,.slice Av s.vot.length cv],.slice Af F.length cf,.agg #[.bool true,.slice A2 s.ps.length c2,.slice Dq Rq.length oq]] w5 fun e w'=>e=.returned (.bool true)/\Below w5.heap.size w5 w'):=by
           have bj:=ar.out.below d.out;have h:=Gf s Ap Ac Av Af A2 Dq cp cc cv cf c2 oq F true (AN s.ps.length f) Rq w5 (hE.out.below d.out) (hs.out.below d.out) (Ge aD.out) (hF.out.below d.out) aU ⟨br.out,bj.ints,by rw[Ag];omega,bj.lr,aR.out⟩;rw[Ag]at h;refine h.mono fun e w' hh=>?_;obtain⟨⟨r9,e1,e2⟩,hb⟩:=hh;have bi:=Jy aJ.out (by have h9:=ht.out;rw[hf.out]at h9;exact h9.symm);rw[show (fun p=>BJ Vq p*byQ true)=f from hf.out.symm]at bi;rw[e2.2 bi]at e1;exact⟨e1,hb⟩
          go_wp2_with fail
          refine kc.out.mono ?_;rintro e w6 ⟨rfl,hb⟩;have ax:=zh (d.out.trans (hb.mono d.out.size));clear hb kc;go_wp2;go_ret;exact⟨rfl,ax.out⟩
end Bd
end Go.Proofs.YtilodknkildkbaaGreatDoor

/- Texts that the proof needs: LawBScalesL. -/
import Derived.Test.YtilodknkildkbaaGreatDoorKdK
set_option maxHeartbeats 16000000
set_option maxRecDepth 100000
namespace Go.Proofs.YtilodknkildkbaaGreatDoor
open Go.RowKit Go.Shelf
namespace Bd
open Nt Ci Sh
theorem Uv:rq (byQ false)=(false,⟨#[49]⟩,⟨#[50]⟩):=by decide +kernel
theorem IF (s:SR) (Ap Ac Av Af:Option Addr) (cp cc cv cf:Nat) (F:List Int) (Aq Dq:Option Addr) (mq oq:Nat) (Vq:List Raw) (Rq:List Int) (w:World) (hE:Env w) (hs:StIn w s Ap Ac Av) (hF:InInt w Af F) (aO:F.length<=140737488355328) (ao:CIn w Aq Dq Vq Rq) :
 Calls Tryz.prog 8 #[.agg #[.slice Ap s.ps.length cp,.slice Ac s.cap.length cc,.slice Av s.vot.length cv],.slice Af F.length cf,.agg #[.bool false,.slice Aq Vq.length mq,.slice Dq Rq.length oq]] w fun e w'=>e=.returned (.bool true)/\Below w.heap.size w w':=by
 have aC:Hid (Below w.heap.size w ((w.alloc (.cells #[.slice Ap s.ps.length cp,.slice Ac s.cap.length cc,.slice Av s.vot.length cv] 25)).alloc (.cells #[.bool false,.slice Aq Vq.length mq,.slice Dq Rq.length oq] 29))):=((Below.refl _ w).alloc (Nat.le_refl _) _).alloc (by simp) _;have aZ:Hid (Bk ((w.alloc (.cells #[.slice Ap s.ps.length cp,.slice Ac s.cap.length cc,.slice Av s.vot.length cv] 25)).alloc (.cells #[.bool false,.slice Aq Vq.length mq,.slice Dq Rq.length oq] 29)) w.heap.size 25 (SC s Ap Ac Av cp cc cv)):=((Bk.new w 25 [.slice Ap s.ps.length cp,.slice Ac s.cap.length cc,.slice Av s.vot.length cv]).alloc (.cells #[.bool false,.slice Aq Vq.length mq,.slice Dq Rq.length oq] 29));have aK:Hid (Bk ((w.alloc (.cells #[.slice Ap s.ps.length cp,.slice Ac s.cap.length cc,.slice Av s.vot.length cv] 25)).alloc (.cells #[.bool false,.slice Aq Vq.length mq,.slice Dq Rq.length oq] 29)) (w.heap.size+1) 29 [.bool false,.slice Aq Vq.length mq,.slice Dq Rq.length oq]):=(by have h:=Bk.new (w.alloc (.cells #[.slice Ap s.ps.length cp,.slice Ac s.cap.length cc,.slice Av s.vot.length cv] 25)) 29 [.bool false,.slice Aq Vq.length mq,.slice Dq Rq.length oq];(try simp only[World.size_alloc]at h);exact h:Bk ((w.alloc (.cells #[.slice Ap s.ps.length cp,.slice Ac s.cap.length cc,.slice Av s.vot.length cv] 25)).alloc (.cells #[.bool false,.slice Aq Vq.length mq,.slice Dq Rq.length oq] 29)) (w.heap.size+1) 29 [.bool false,.slice Aq Vq.length mq,.slice Dq Rq.length oq]);replace hE:=zh hE;replace hs:=zh hs;replace hF:=zh hF;replace ao:=zh ao;go_enter Tryz.func8,Tryz.ntmps8
 go_wp2_with fail
 refine(Iu _ (hE.out.below aC.out)).mono ?_;rintro e w2 ⟨rfl,hb⟩;have aq:=zh (aZ.out.below hb);have av:=zh (aC.out.trans (hb.mono aC.out.size));have ad:=zh (aK.out.below hb);clear hb aZ aC aK;have u0:=aq.out.c0;have u1:=aq.out.c1;have u2:=aq.out.c2;have u9:=aq.out.lt;have ak:=ad.out.c0;have d:=ad.out.c1;have al:=ad.out.c2;have aa:=ad.out.lt;have kf:=zh (SK s Ap Ac Av Aq Dq cp cc cv cf mq oq Af F false Vq Rq w2 (hs.out.below av.out) aO (ao.out.below av.out))
 go_wp2_with fail
 refine kf.out.mono ?_;rintro e w3 ⟨⟨r,rfl,hr⟩,hb⟩;have ar:=zh (aq.out.below hb);have ah:=zh (av.out.trans (hb.mono av.out.size));have ae:=zh (ad.out.below hb);clear hb aq av ad;clear u0 u1 u2 u9;clear ak d al aa;clear kf;replace hr:=zh hr
 cases r with
 | false =>
   go_wp2;go_ret;exact⟨rfl,ah.out⟩
 | true =>
   obtain⟨aB,bs,aI⟩:=hr.out rfl;replace aB:=zh aB;replace aI:=zh aI;clear hr;have u0:=ar.out.c0;have u1:=ar.out.c1;have u2:=ar.out.c2;have u9:=ar.out.lt;have ak:=ae.out.c0;have d:=ae.out.c1;have al:=ae.out.c2;have aa:=ae.out.lt;have kc:=zh (Gf s Ap Ac Av Af Aq Dq cp cc cv cf mq oq F false Vq Rq w3 (hE.out.below ah.out) (hs.out.below ah.out) (Ge aB.out) (hF.out.below ah.out) aO (ao.out.below ah.out))
   go_wp2_with fail
   refine kc.out.mono ?_;rintro e w4 ⟨⟨r,rfl,hr⟩,hb⟩;have a0:=zh (ar.out.below hb);have aD:=zh (ah.out.trans (hb.mono ah.out.size));have af:=zh (ae.out.below hb);clear hb ar ah ae;clear u0 u1 u2 u9;clear ak d al aa;clear kc;replace hr:=zh hr
   cases r with
   | false =>
     go_wp2;go_ret;exact⟨rfl,aD.out⟩
   | true =>
     have aH:=zh (hr.out.1 rfl);clear hr;have ak:=af.out.c0;have d:=af.out.c1;have al:=af.out.c2;have aa:=af.out.lt
     go_wp2_with fail
     clear ak d al aa;refine(BD ⟨#[49]⟩ ⟨#[50]⟩ w4).mono ?_;rintro e w5 ⟨rfl,hb⟩;have aj:=zh (a0.out.below hb);have a:=zh (aD.out.trans (hb.mono aD.out.size));have am:=zh (af.out.below hb);clear hb a0 aD af;have aL:Hid (w.heap.size+1<w5.heap.size):=am.out.lt;have zYq:=am.out.alloc (.cells #[.bool false,.string ⟨#[49]⟩,.string ⟨#[50]⟩] 40);have zYq0:=zYq.c0;have zYq1:=zYq.c1;have zYq2:=zYq.c2;have zYq9:=zYq.lt;clear zYq;obtain⟨w6,au⟩:∃X,X=w5.alloc (.cells #[.bool false,.string ⟨#[49]⟩,.string ⟨#[50]⟩] 40):=⟨_,rfl⟩;have hb:Below w5.heap.size w5 w6:=by rw[au];exact(Below.refl _ _).alloc (Nat.le_refl _) _
     obtain⟨bh,aA⟩:∃x,x=w5.heap.size:=⟨_,rfl⟩;have a1:Bk w6 bh 40 [.bool false,.string ⟨#[49]⟩,.string ⟨#[50]⟩]:=by rw[au,aA];exact Bk.new _ _ _
     have bg:=zh (aj.out.below hb);have aE:=zh (a.out.trans (hb.mono a.out.size));have a3:=zh (am.out.below hb);clear hb aj a am;have aJ:=zh a1;clear a1;have bk:Hid (w.heap.size+1<bh):=by rw[aA];exact aL.out
     clear aL;obtain⟨wm,ai⟩:∃X,X=w6.alloc (.cells #[.bool false,.slice none 0 0,.slice Dq Rq.length oq] 29):=⟨_,rfl⟩;obtain⟨bd,az⟩:∃x,x=w6.heap.size:=⟨_,rfl⟩;have bb:Hid (Below w.heap.size w wm):=by rw[ai];exact aE.out.alloc aE.out.size _
     have a4:Hid (Bk wm (w.heap.size+1) 29 [.bool false,.slice Aq Vq.length mq,.slice Dq Rq.length oq]):=by rw[ai];exact a3.out.alloc _
     have bi:Hid (Bk wm w.heap.size 25 (SC s Ap Ac Av cp cc cv)):=by rw[ai];exact bg.out.alloc _
     have a2:Hid (Bk wm bh 40 [.bool false,.string ⟨#[49]⟩,.string ⟨#[50]⟩]):=by rw[ai];exact aJ.out.alloc _
     have be:Hid (Bk wm bd 29 [.bool false,.slice none 0 0,.slice Dq Rq.length oq]):=by rw[ai,az];exact Bk.new _ _ _
     have bj:Hid (bh<bd):=by rw[az];exact aJ.out.lt
     have a8:w6.heap.size=w5.heap.size+1:=by rw[au];simp
     go_wp2_with fail
     rw[<-a8,<-az];rw[<-au];rw[<-aA];replace au:=zh au;replace aA:=zh aA;clear zYq0 zYq1 zYq2 zYq9;rw[<-ai];clear a8;replace ai:=zh ai;replace az:=zh az;obtain⟨f,hf⟩:∃f,f=fun p=>BJ Vq p*byQ false:=⟨_,rfl⟩;have aY:Hid (JV wm wm bd (.bool false) (.slice Dq Rq.length oq) f none 0 0):=JV.start be.out;obtain⟨i0,aS,a9⟩:=Option.map_eq_some_iff.1 infoQ;simp only[Prod.mk.injEq]at a9;obtain⟨aV,aW,aX⟩:=a9;replace aS:=zh aS;replace aV:=zh aV;replace aW:=zh aW;replace aX:=zh aX;replace hf:=zh hf;have bu:=hs.out.np;have bt:=Oa aB.out;have aU:=zh aH.out.len;obtain⟨bm,DD,aN⟩:=CN aH.out.fits;clear bm;have aQ:Dg 1 (byQ false):=by unfold Dg byQ;decide +kernel
     have bq:Hid (∀p,ShortQ (BJ Vq p)):=fun p=>aN.short p;have bp:Hid (∀p,ShortQ (f p)):=fun p=>by rw[hf.out];exact((aN.dg p).mul aQ).short (by decide)
     have bo:Hid (ShortQ (byQ false)):=aQ.short (by decide);clear aN aQ
     go_loopw [10] (fun ix wr=>∃(p:Nat) (A2:Option Addr) (c2:Nat),p<=s.ps.length/\ix=.int .i64 (p:Int)/\Hid (JV wm wr bd (.bool false) (.slice Dq Rq.length oq) f A2 c2 p)) (fun ix _=>s.ps.length-(intOf ix).toNat)
     case atStart=>exact⟨0,none,0,Nat.zero_le _,rfl,aY⟩
     case round =>
      clear aY;obtain⟨p,A2,c2,hp,rfl,hJ⟩:=hrel;obtain⟨wp,rfl⟩:∃z,z=wr:=⟨_,rfl⟩;have an:Hid (w.heap.size+1<bh/\bh<bd):=⟨bk.out,bj.out⟩;have aw:Hid (Below w.heap.size w wp):=hJ.out.kp.to_below bb.out (fun x hx=>by have:=an.out;simp at hx;omega);have ag:=zh (a4.out.kp hJ.out.kp (by have:=an.out;simp;omega));have ay:=zh (a2.out.kp hJ.out.kp (by have:=an.out;simp;omega))
      by_cases hpn:p<s.ps.length
      · have j0:(0:Int)<=(p:Int):=by omega
        have bv:p<Vq.length:=by have:=aU.out;omega
        have j1:(p:Int)<(Vq.length:Int):=by omega
        have ak:=ag.out.c0;have d:=ag.out.c1;have al:=ag.out.c2;have aa:=ag.out.lt;obtain⟨oa,fa,ba,x9,hx⟩:=(ao.out.below aw.out).row (by omega);subst ba;obtain⟨x0,x1,x2⟩:=hx p (by omega);have ea:=aH.out.raw (p:=p) (by omega);rw[ea]at x0 x1 x2;clear hx ea;have sx:=bq.out p;have aR:f p=BJ Vq p*byQ false:=by rw[hf.out]
        obtain⟨qx,a7⟩:∃q,q=BJ Vq p:=⟨_,rfl⟩;rw[<-a7]at x0 x1 x2 sx aR;clear a7;have km:∀W,Env W->Calls Tryz.prog 26 #[.agg #[.bool (rq (qx)).1,.string (rq (qx)).2.1,.string (rq (qx)).2.2],.agg #[.bool (rq (byQ false)).1,.string (rq (byQ false)).2.1,.string (rq (byQ false)).2.2]] W fun e w'=>e=.returned (.tuple #[.agg #[.bool (rq (f p)).1,.string (rq (f p)).2.1,.string (rq (f p)).2.2],.int .i64 0])/\Below W.heap.size W w':=fun W hW=>by have h:=Do qx (byQ false) sx bo.out W hW;rw[<-aR]at h;exact h
        rw[Uv]at km;replace km:=zh km;clear sx aR;have HT:Hid (∀W,Below wp.heap.size wp W->(fun W=>W.cell? ⟨w.heap.size+1,1,none⟩=some (.slice (some ⟨oa,fa,none⟩) Vq.length mq)/\W.cell? ⟨oa,fa+p*3,none⟩=some (.bool (rq (qx)).1)/\W.cell? ⟨oa,fa+p*3+1,none⟩=some (.string (rq (qx)).2.1)/\W.cell? ⟨oa,fa+p*3+2,none⟩=some (.string (rq (qx)).2.2)/\W.cell? ⟨bh,0,none⟩=some (.bool false)/\W.cell? ⟨bh,1,none⟩=some (.string ⟨#[49]⟩)/\W.cell? ⟨bh,2,none⟩=some (.string ⟨#[50]⟩)) W):=fun W h=>⟨(h.cell (p:=⟨w.heap.size+1,1,none⟩) aa).trans d,(h.cell (p:=⟨oa,fa+p*3,none⟩) x9).trans x0,(h.cell (p:=⟨oa,fa+p*3+1,none⟩) x9).trans x1,(h.cell (p:=⟨oa,fa+p*3+2,none⟩) x9).trans x2,(ay.out.below h).c0,(ay.out.below h).c1,(ay.out.below h).c2⟩;clear x0 x1 x2 x9
        go_wp2_with fail
        clear ak d al aa;refine Wj (w.heap.size+1) bh oa fa Vq.length mq p _ _ _ _ _ _ _ _ _ wp HT.out (by omega) (fun W h=>hE.out.below (aw.out.trans (h.mono aw.out.size))) km.out ?_;intro _ _ _ _ _ _ _ _ _ _ wf xb hx hb bw;clear HT km;have hj:=zh (hJ.out.below hb.out);have x0:=hx.out.c0;have x1:=hx.out.c1;have x2:=hx.out.c2;have x9:=hx.out.lt;have b1:=hj.out.blk.c1;have b9:=hj.out.blk.lt;have aT:Hid (JV wm (wf.alloc (.cells #[.bool (rq (f p)).1,.string (rq (f p)).2.1,.string (rq (f p)).2.2] 40)) bd (.bool false) (.slice Dq Rq.length oq) f A2 c2 p):=hj.out.below ((Below.refl _ _).alloc (Nat.le_refl _) _);have br:Hid (wm.heap.size<=(wf.alloc (.cells #[.bool (rq (f p)).1,.string (rq (f p)).2.1,.string (rq (f p)).2.2] 40)).heap.size):=aT.out.kp.size
        go_wp2_with (at_builtin;refine Ci.wpList_append_new _ rfl _ _ 27 rfl wm.heap.size 40 i0 (.agg #[.bool false,.string ⟨#[]⟩,.string ⟨#[]⟩]) 3 40 Tryz.underlying27 aS.out aV.out aW.out aX.out rfl (by decide) (.slice A2 p c2) p (AF p fun i=>rq (f i)) rfl aT.out.vals _ 1 1 (Eb (rq (f p))) rfl rfl (JH _ _ _ _ _) (FP _) (by omega) (by unfold maxLen;omega) (by omega) br.out ?_;intro v9 wa ho hg hn;obtain⟨A9,d9,e9,bn,aF,aP⟩:=aT.out.app ho hg;subst e9;have g1:=aF.c1;have gf:=aF.frozen 1;have g9:=aF.lt;replace aP:=zh aP;clear ho hg hn bn aF)
        go_wp2;exact⟨⟨p+1,A9,d9,by omega,by go_num,aP⟩,by simp only[intOf];omega⟩
      · obtain rfl:p=s.ps.length:=by omega
        have ax:=zh (bi.out.kp hJ.out.kp (by have:=an.out;simp;omega));have hV:=zh (Lu hJ.out.vals);have aM:=zh (Ob (n:=s.ps.length) (f:=f) fun p _=>bp.out p);have kf:Hid (Calls Tryz.prog 24 #[.slice A2 s.ps.length c2] wp fun e w'=>e=.returned (.bool (Cg (AN s.ps.length f)))/\Below wp.heap.size wp w'):=by have h:=J0 A2 c2 (AN s.ps.length f) wp hV.out (by rw[Ag];omega) aM.out;rw[Ag]at h;exact h
        obtain⟨t,ht⟩:∃t,t=Cg (AN s.ps.length f):=⟨_,rfl⟩;rw[<-ht]at kf;replace ht:=zh ht;have u0:=ax.out.c0;have b0:=hJ.out.blk.c0;have u1:=ax.out.c1;have b1:=hJ.out.blk.c1;have u2:=ax.out.c2;have b2:=hJ.out.blk.c2;have u9:=ax.out.lt;have b9:=hJ.out.blk.lt;have d:=ag.out.c1;have aa:=ag.out.lt;have jn:¬(s.ps.length:Int)<(Vq.length:Int):=by have:=aU.out;omega
        have jm:decide ((s.ps.length:Int)<(Vq.length:Int))=false:=decide_eq_false jn;have jo:decide (s.ps.length<Vq.length)=false:=decide_eq_false (by have:=aU.out;omega)
        go_wp2_with fail
        refine kf.out.mono ?_;rintro e w5 ⟨rfl,hb⟩;have a:=zh (aw.out.trans (hb.mono aw.out.size));have aj:=zh (ax.out.below hb);have bf:=zh (hV.out.below hb (Nat.le_refl _));have aG:=zh (hJ.out.below hb);clear hb kf u0 u1 u2 u9 b0 b1 b2 b9 d aa jn jm jo
        cases t with
        | false =>
          go_wp2;go_ret;exact⟨rfl,a.out⟩
        | true =>
          have u0:=aj.out.c0;have b0:=aG.out.blk.c0;have u1:=aj.out.c1;have b1:=aG.out.blk.c1;have u2:=aj.out.c2;have b2:=aG.out.blk.c2;have u9:=aj.out.lt;have b9:=aG.out.blk.lt
          have kc:Hid (Calls Tryz.prog 18 #[.agg #[.slice Ap s.ps.length cp,.slice Ac s.cap.length cc,.slice Av s.vot.length cv],.slice Af F.length cf,.agg #[.bool false,.slice A2 s.ps.length c2,.slice Dq Rq.length oq]] w5 fun e w'=>e=.returned (.bool true)/\Below w5.heap.size w5 w'):=by
           have a6:=ao.out.below a.out;have h:=Gf s Ap Ac Av Af A2 Dq cp cc cv cf c2 oq F false (AN s.ps.length f) Rq w5 (hE.out.below a.out) (hs.out.below a.out) (Ge aB.out) (hF.out.below a.out) aO ⟨bf.out,a6.ints,by rw[Ag];omega,a6.lr,aM.out⟩;rw[Ag]at h;refine h.mono fun e w' hh=>?_;obtain⟨⟨r9,e1,e2⟩,hb⟩:=hh;have a5:=Jy aH.out (by have h9:=ht.out;rw[hf.out]at h9;exact h9.symm);rw[show (fun p=>BJ Vq p*byQ false)=f from hf.out.symm]at a5;rw[e2.2 a5]at e1;exact⟨e1,hb⟩
          go_wp2_with fail
          refine kc.out.mono ?_;rintro e w6 ⟨rfl,hb⟩;have aE:=zh (a.out.trans (hb.mono a.out.size));clear hb kc;go_wp2;go_ret;exact⟨rfl,aE.out⟩
end Bd
end Go.Proofs.YtilodknkildkbaaGreatDoor

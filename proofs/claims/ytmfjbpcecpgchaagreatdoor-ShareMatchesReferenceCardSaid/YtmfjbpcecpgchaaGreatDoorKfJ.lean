/- Parts of the proof. -/
import Derived.Test.YtmfjbpcecpgchaaGreatDoorKfI
set_option maxHeartbeats 64000000
set_option maxRecDepth 100000
open Go.Proofs.Tryz
namespace Go.Proofs.YtmfjbpcecpgchaaGreatDoor
section
open Go.RowKit Go.Shelf
namespace Sh
open Nt Ci
theorem Mo(s:SR)(Ap Ac Av Af:Option Addr)(cp cc cv cf:Nat)(F:List Int)(w:World)(hs:StIn w s Ap Ac Av)(e7:s.cap.length<=300)(hF:InInt w Af F)(bF:F.length<=140737488355328):
 Calls prog 14 #[.agg #[.slice Ap s.ps.length cp,.slice Ac s.cap.length cc,.slice Av s.vot.length cv],.slice Af F.length cf] w (Fd s F w):=by
 have eZ:=hs.np;have ae:Hid (Bk (w.alloc (.cells #[.slice Ap s.ps.length cp,.slice Ac s.cap.length cc,.slice Av s.vot.length cv] 25)) w.heap.size 25 (SC s Ap Ac Av cp cc cv)):=Bk.new w _ _;have an:Hid (Below w.heap.size w (w.alloc (.cells #[.slice Ap s.ps.length cp,.slice Ac s.cap.length cc,.slice Av s.vot.length cv] 25))):=(zI _ w).alloc (zB _) _;have bD:Hid (∀e w',(¬(Am s=true/\Be s.ps.length F=true))->e=.returned (.tuple #[.slice none 0 0,.int .i64 1])->Below w.heap.size w w'->Fd s F w e w'):=fun e w' h1 h2 h3=>⟨by rw[zC h1];exact h2,h3⟩;have bI:Hid (∀e w',Am s=true/\Be s.ps.length F=true->BE s.ps.length (Ad s) (toN F)=true->e=.returned (.tuple #[.slice none 0 0,.int .i64 2])->Below w.heap.size w w'->Fd s F w e w'):=fun e w' h1 h2 h3 h4=>⟨by rw[zE h1,zE h2];exact h3,h4⟩;have dc:Hid (∀e w' b,Am s=true/\Be s.ps.length F=true->BE s.ps.length (Ad s) (toN F)=false->e=.returned (.tuple #[.slice (some ⟨b,0,none⟩) s.ps.length s.ps.length,.int .i64 0])->w.heap.size<=b->RowB w' b s.ps.length (fun p=>rq (Hq SQ s.ps.length (Ai s.cap) (toN F) p))->Below w.heap.size w w'->Fd s F w e w'):=fun e w' b h1 h2 h3 h4 h5 h6=>⟨by rw[zE h1,zC (by rw[h2];decide)];exact⟨b,h3,h4,h5⟩,h6⟩;have kS:=fun W (h:Below w.heap.size w W)=>FW s Ap Ac Av cp cc cv W (hs.below h);have dA:Hid (∀W,Below w.heap.size w W->StIn W s Ap Ac Av):=fun W h=>hs.below h;have kR:=zh (fun W (h:Below w.heap.size w W)=>Oz s Ap Ac Av Af cp cc cv cf F W (dA.o W h) (hF.below h) bF);have kC:=zh (fun W (h:Below w.heap.size w W)=>Ht s Ap Ac Av cp cc cv W (dA.o W h));have kP:=fun W (h:Below w.heap.size w W)=>(LL Af cf (s.ps.length:Int) F W (hF.below h) bF).mono fun e w' h=>(⟨h.1,by obtain⟨q,rfl⟩:=h.2;exact Bn (zI _ _) q⟩:e=.returned (.bool (Be s.ps.length F))/\Below W.heap.size W w');replace hs:=zh hs;replace hF:=zh hF
 cases al:Am s with
 |false=>
  have dz:Hid (¬(Am s=true/\Be s.ps.length F=true)):=fun h=>by rw[al]at h;cases h.1
  rw[al]at kS;replace kS:=zh kS;replace al:=zh al;have u0:=ae.o.c0;have u1:=ae.o.c1;have u2:=ae.o.c2;have u9:=ae.o.lt;go_enter func14,ntmps14
  go_wp2_with fail
  refine(kS.o _ an.o).q fun w1 hb=>?_;have aB:=an.t hb;have ct:=zh (ae.o.below hb);clear hb kS an ae u0 u1 u2 u9;go_wp2;go_ret2;exact bD.o _ _ dz.o rfl aB.o
 |true=>
  rw[al]at kS;replace kS:=zh kS;replace al:=zh al
  cases aq:Be s.ps.length F with
  |false=>
   have dz:Hid (¬(Am s=true/\Be s.ps.length F=true)):=fun h=>by rw[aq]at h;cases h.2
   rw[aq]at kP;replace kP:=zh kP;replace aq:=zh aq;have u0:=ae.o.c0;have u1:=ae.o.c1;have u2:=ae.o.c2;have u9:=ae.o.lt;go_enter func14,ntmps14
   go_wp2_with fail
   refine(kS.o _ an.o).q fun w1 hb=>?_;have aB:=an.t hb;have ct:=zh (ae.o.below hb);clear hb kS an ae u0 u1 u2 u9
   go_wp2_with fail
   refine(kP.o _ aB.o).q fun wq hb=>?_;have bE:=aB.t hb;go_wp2;go_ret2;exact bD.o _ _ dz.o rfl bE.o
  |true=>
   rw[aq]at kP;replace kP:=zh kP;have u0:=ae.o.c0;have u1:=ae.o.c1;have u2:=ae.o.c2;have u9:=ae.o.lt;go_enter func14,ntmps14
   go_wp2_with fail
   refine(kS.o _ an.o).q fun w1 hb=>?_;have aB:=an.t hb;have ct:=zh (ae.o.below hb);clear hb kS an ae u0 u1 u2 u9
   go_wp2_with fail
   refine(kP.o _ aB.o).q fun wq hb=>?_;have bE:=aB.t hb;have bu:=zh (ct.o.below hb);clear hb aB ct;have cE:Hid (Am s=true/\Be s.ps.length F=true):=⟨al.o,aq⟩;have e0:=JH aq;have eY:=GF al.o;replace aq:=zh aq;clear kP bD;have kR1:=zh (kR.o wq bE.o);have u0:=bu.o.c0;have u1:=bu.o.c1;have u2:=bu.o.c2;have u9:=bu.o.lt
   go_wp2_with fail
   refine kR1.o.mono ?_;rintro e w2 ⟨hr,hb⟩;rw[zE cE.o]at hr;obtain⟨Ar,cr,rfl,cI⟩:=hr;have cd:=bE.t hb;have bt:=zh (bu.o.below hb);replace cI:=zh cI;clear hb kR kR1 u0 u1 u2 u9 bu;have kC1:=zh (kC.o w2 cd.o);have u0:=bt.o.c0;have u1:=bt.o.c1;have u2:=bt.o.c2;have u9:=bt.o.lt
   go_wp2_with fail
   refine kC1.o.mono ?_;rintro e w4 ⟨hr,hb⟩;rw[zE al.o]at hr;obtain⟨Al,cl,l,rfl,cC,bO⟩:=hr;have aP:=cd.t hb;have cw:=zh (bt.o.below hb);have bY:=zh (cI.o.below hb);replace cC:=zh cC;replace bO:=zh bO;clear hb kC kC1 u0 u1 u2 u9 bt cI cd;have dx:=DA 27 underlying27 s.ps.length (by omega);obtain⟨ob,bb⟩:∃x,x=w4.heap.size:=⟨_,rfl⟩;obtain⟨w5,b2⟩:∃W,W=(w4.alloc (.cells (AN s.ps.length fun _=>zraw).toArray 34)):=⟨_,rfl⟩;have dO:Hid (Below w4.heap.size w4 w5):=by rw[b2];exact(zI _ w4).alloc (zB _) _
   have dX:Hid (RowB w5 ob s.ps.length fun j=>if j<0 then rq (inV (toN F) j) else zraw):=by rw[b2,bb];refine RowB.congr (r:=fun _=>zraw) (zo w4 _) fun j _=>?_;rw[zC (zi _)]
   go_wp2_with fail
   (try rw[<-b2])
   (try rw[<-bb])
   replace b2:=zh b2;replace bb:=zh bb;clear dx;have ek:Hid (Value.int .i64 0=.int .i64 ((Gy (Ad s) (toN F) 0:Nat):Int)):=rfl
   go_loopw [12,13] (fun rx ix wr=>∃(k:Nat),k<=s.ps.length/\rx=.int .i64 ((Gy (Ad s) (toN F) k:Nat):Int)/\ix=.int .i64 (k:Int)/\Hid (Below w4.heap.size w4 wr)/\Hid (RowB wr ob s.ps.length fun j=>if j<k then rq (inV (toN F) j) else zraw)) (fun _ ix _=>s.ps.length-(intOf ix).toNat)
   case atStart=>exact⟨0,zO _,ek.o,rfl,dO,dX⟩
   case round=>
    clear dO dX ek;obtain⟨k,hk,rfl,rfl,aI,br⟩:=hrel;obtain⟨wz,rfl⟩:∃z,z=wr:=⟨_,rfl⟩;have bz:Hid (w4.heap.size<=ob):=wE bb.o.symm
    by_cases hkn:k<s.ps.length
    .have q0:(0:Int)<=(k:Int):=by omega
     have q1:(k:Int)<(s.ps.length:Int):=by omega
     have aa:=T1 (E:=(Ad s)) (F:=(toN F)) k;have aM:=T3 (E:=(Ad s)) (F:=(toN F)) k;obtain⟨c0,cA⟩:∃c,c=Gy (Ad s) (toN F) k:=⟨_,rfl⟩;obtain⟨c1,bv⟩:∃c,c=Gy (Ad s) (toN F) (k+1):=⟨_,rfl⟩;rw[<-cA]at aa aM;rw[<-bv]at aa;rw[<-cA];replace cA:=zh cA;replace bv:=zh bv;replace aa:=zh aa
     go_wp2_with fail
     refine(GM wz).q fun w6 hb=>?_;have ag:Hid (Below w4.heap.size w4 w6):=aI.o.trans (hb.mono aI.o.size);have a:Hid (RowB w6 ob s.ps.length fun j=>if j<k then rq (inV (toN F) j) else zraw):=br.o.below hb br.o.lt;clear hb aI br;obtain⟨r1,r2,r3⟩:=a.o.cell hkn;have f1:=a.o.frozen (k*3);have f2:=a.o.frozen (k*3+1);have f3:=a.o.frozen (k*3+2);have r9:=a.o.lt;generalize (if k<k then rq (inV (toN F) k) else zraw)=rz at r1 r2 r3;obtain⟨w7,aA⟩:∃W,W=(((w6.setCell ⟨ob,k*3,none⟩ (.bool (rq (0)).1)).setCell ⟨ob,k*3+1,none⟩ (.string (rq (0)).2.1)).setCell ⟨ob,k*3+2,none⟩ (.string (rq (0)).2.2)):=⟨_,rfl⟩;have aH:Hid (Below w4.heap.size w4 w7):=by rw[aA];exact((ag.o.setCell (p:=⟨ob,k*3,none⟩) bz.o _).setCell (p:=⟨ob,k*3+1,none⟩) bz.o _).setCell (p:=⟨ob,k*3+2,none⟩) bz.o _
     have aS:Hid (RowB w7 ob s.ps.length fun j=>if j=k then rq 0 else if j<k then rq (inV (toN F) j) else zraw):=by rw[aA];exact a.o.set hkn (rq 0)
     go_wp2_with fail
     rw[<-aA];replace aA:=zh aA;clear r1 r2 r3 f1 f2 f3 r9 a ag;have eE:=zh (aP.o.trans (aH.o.mono aP.o.size));have kx:=Kz Af cf F (k:Int) w7 (hF.o.below eE.o) bF;have dy:=V8 (l:=F) (x:=(k:Int));have ao:=UF aq.o k;obtain⟨iv,dr⟩:∃x,x=Eo F (k:Int):=⟨_,rfl⟩;rw[<-dr]at kx dy;replace dr:=zh dr;replace kx:=zh kx;refine kx.o.q fun wx b5=>?_;obtain rfl:=b5.symm;clear kx
     by_cases hkF:k∈(toN F)
     .rw[zH (ao.1 hkF)]at dy;have dj:c1=c0:=by rw[aa.o,zC (by have:=(Cv (E:=(Ad s))).2 hkF;omega)];rfl
      have af:inV (toN F) k=1:=zE hkF;have aW:Hid (Value.int .i64 (c0:Int)=.int .i64 ((Gy (Ad s) (toN F) (k+1):Nat):Int)):=by rw[<-bv.o,dj];rfl
      replace dj:=zh dj;replace ao:=zh ao;replace hkF:=zh hkF;replace af:=zh af
      go_wp2_with fail
      refine(Mj w7).q fun w8 hb=>?_;have ce:Hid (Below w4.heap.size w4 w8):=aH.o.trans (hb.mono aH.o.size);have bp:=zh (aS.o.below hb aS.o.lt);clear hb aH aS;obtain⟨r1,r2,r3⟩:=bp.o.cell hkn;rw[zE rfl]at r1 r2 r3;have f1:=bp.o.frozen (k*3);have f2:=bp.o.frozen (k*3+1);have f3:=bp.o.frozen (k*3+2);have r9:=bp.o.lt;have a2:Hid (Below w4.heap.size w4 (((w8.setCell ⟨ob,k*3,none⟩ (.bool (rq (1)).1)).setCell ⟨ob,k*3+1,none⟩ (.string (rq (1)).2.1)).setCell ⟨ob,k*3+2,none⟩ (.string (rq (1)).2.2))):=((ce.o.setCell (p:=⟨ob,k*3,none⟩) bz.o _).setCell (p:=⟨ob,k*3+1,none⟩) bz.o _).setCell (p:=⟨ob,k*3+2,none⟩) bz.o _;have a4:Hid (RowB (((w8.setCell ⟨ob,k*3,none⟩ (.bool (rq (1)).1)).setCell ⟨ob,k*3+1,none⟩ (.string (rq (1)).2.1)).setCell ⟨ob,k*3+2,none⟩ (.string (rq (1)).2.2)) ob s.ps.length fun j=>if j<k+1 then rq (inV (toN F) j) else zraw):=(bp.o.set hkn (rq 1)).congr fun j _=>by by_cases c:j=k;(· rw[zE c,zE (by omega),c,af.o]);(· rw[zC c,zC c];by_cases d:j<k;(· rw[zE d,zE (by omega)]);(· rw[zC d,zC (by omega)]))
      go_wp2;exact⟨⟨k+1,by omega,aW.o,by go_num,a2,a4⟩,by simp only[intOf];omega⟩
     rw[zD (fun h=>hkF (ao.2 h))]at dy;have bQ:inV (toN F) k=0:=zC hkF;have a4:Hid (RowB w7 ob s.ps.length fun j=>if j<k+1 then rq (inV (toN F) j) else zraw):=aS.o.congr fun j _=>by by_cases c:j=k;(· rw[zE c,zE (by omega),c,bQ]);(· rw[zC c];by_cases d:j<k;(· rw[zE d,zE (by omega)]);(· rw[zC d,zC (by omega)]))
     clear aS;obtain⟨rb,ro,eB,r9,el⟩:=Pm (bY.o.below aH.o) (by omega);subst eB;have r1:=el k hkn;clear el;replace aa:=aa.o;generalize rk (Ad s) (toN F) k=rv at r1 aa;replace ao:=zh ao;replace hkF:=zh hkF;replace bQ:=zh bQ
     by_cases hrv:0<rv
     .have t1:decide (0<rv)=true:=zH hrv;have aW:Hid (Value.int .i64 ((c0:Int)+1)=.int .i64 ((Gy (Ad s) (toN F) (k+1):Nat):Int)):=by rw[<-bv.o,aa,zE hrv];go_num
      replace aa:=zh aa;replace hrv:=zh hrv;go_wp2;exact⟨⟨k+1,by omega,aW.o,by go_num,aH,a4⟩,by simp only[intOf];omega⟩
     have t1:decide (0<rv)=false:=zD hrv;have aW:Hid (Value.int .i64 (c0:Int)=.int .i64 ((Gy (Ad s) (toN F) (k+1):Nat):Int)):=by rw[<-bv.o,aa,zC hrv];rfl
     replace aa:=zh aa;replace hrv:=zh hrv;go_wp2;exact⟨⟨k+1,by omega,aW.o,by go_num,aH,a4⟩,by simp only[intOf];omega⟩
    obtain rfl:k=s.ps.length:=by omega
    have eJ:=zh (cw.o.below aI.o);have cZ:=zh (bY.o.below aI.o);have cT:=zh (DJ cC.o aI.o);have ag:=zh (aP.o.trans (aI.o.mono aP.o.size));have a:Hid (RowB wz ob s.ps.length fun j=>rq (inV (toN F) j)):=br.o.congr fun j hj=>by rw[zE hj]
    have ei:Hid (ob<wz.heap.size):=br.o.lt;have cY:Hid (w.heap.size<ob):=by have:=cw.o.lt;rw[bb.o];exact this
    have cN:Hid (Below w4.heap.size w4 wz):=aI.o;have ej:Hid (w4.heap.size<=ob):=wE bb.o.symm;clear br aI;have aj:=zh (BW al.o);have a7:=UG (F:=(toN F)) (BW al.o);rw[BO]at a7;obtain⟨R0,bJ⟩:∃x,x=Gy (Ad s) (toN F) s.ps.length:=⟨_,rfl⟩;rw[<-bJ]at a7;rw[<-bJ];have aM:=T3 (E:=(Ad s)) (F:=(toN F)) s.ps.length;rw[<-bJ]at aM;replace bJ:=zh bJ;replace a7:=zh a7
    by_cases h16:16<R0
    .have m3:decide (16<(R0:Int))=true:=zH (by omega);have bT:=zh (LI (n:=s.ps.length) (E:=Ad s) (F:=toN F) (by rw[<-a7.o];exact h16));replace h16:=zh h16;go_wp2;go_ret2;exact bI.o _ _ cE.o bT.o rfl ag.o
    have m3:decide (16<(R0:Int))=false:=zD (by omega);have dq:Hid (InN s.ps.length (Ad s)):=by rw[<-BO];exact(BW al.o).inN
    have du:l.length=(Aj s.ps.length (Ad s)).length:=by have:=congrArg List.length bO.o;simpa [baR,CL] using this
    have eM:(Aj s.ps.length (Ad s)).length<=60:=by have h1:=Fu (n:=s.ps.length) (E:=Ad s);have h2:=Lw dq.o;omega
    have bP:Hid (∀t (h:t<(Aj s.ps.length (Ad s)).length),((Aj s.ps.length (Ad s))[t]).length<=60/\∀p,p∈(Aj s.ps.length (Ad s))[t]->p<s.ps.length):=fun t h=>⟨by have h1:=C6 _ _ (EZ h) (Fc dq.o h);omega,Fc dq.o h⟩;have bi:=zh du;rw[du];clear du;have d6:Hid (Below wz.heap.size wz wz):=zI _ _;have cM:Hid (R0<=16):=by unfold Hid;omega
    replace h16:=zh h16
    go_wp2_with fail
    clear m3
    go_loopw [14] (fun ix wr=>∃(t:Nat),t<=(Aj s.ps.length (Ad s)).length/\ix=.int .i64 (t:Int)/\Hid (∀j (h:j<(Aj s.ps.length (Ad s)).length),j<t->(unk (Ad s) (toN F) (Aj s.ps.length (Ad s))[j]).length<=8)/\Hid (Below wz.heap.size wz wr)) (fun ix _=>(Aj s.ps.length (Ad s)).length-(intOf ix).toNat)
    case atStart=>exact⟨0,zO _,rfl,(fun j h h2=>absurd h2 (zi _)),d6⟩
    case round=>
     clear d6;obtain⟨t,ht,rfl,h8,aJ⟩:=hrel;obtain⟨wt,rfl⟩:∃z,z=wr:=⟨_,rfl⟩
     by_cases ai:t<(Aj s.ps.length (Ad s)).length
     .skip
      obtain⟨eV,eW,da,ed,aV⟩:=(DJ cT.o aJ.o) (by rw[bi.o];omega);subst da;have aZ:t<l.length:=by rw[bi.o];exact ai
      obtain⟨e1,af,_⟩:=aV t aZ;obtain⟨_,bS⟩:=GJ bO.o aZ;obtain⟨c,hc⟩:∃c,c=(Aj s.ps.length (Ad s))[t]'ai:=⟨_,rfl⟩;have aY:l[t].2.2=c.map fun(q:Nat)=>(q:Int):=by rw[hc];exact bS
      rw[aY]at e1 af;rw[zU]at e1;clear bS aY;obtain⟨aG,aa⟩:=bP.o t ai;rw[<-hc]at aG aa;have ku:=Mi l[t].1 Af Ar l[t].2.1 cf cr s.ps.length c F (Ad s) wt af (hF.o.below (ag.o.trans (aJ.o.mono ag.o.size))) bF (cZ.o.below aJ.o) aa aG aq.o;obtain⟨ah,a6⟩:∃x,x=l[t].1:=⟨_,rfl⟩;obtain⟨ch,a8⟩:∃x,x=l[t].2.1:=⟨_,rfl⟩;rw[<-a6]at e1 ku;rw[<-a8]at e1 ku;have ay:Hid (t<(Aj s.ps.length (Ad s)).length):=ai;have eT:(0:Int)<=(t:Int):=by omega
      have eU:(t:Int)<((Aj s.ps.length (Ad s)).length:Int):=by omega
      have bg:=zh (fun h=>LH (F:=toN F) ai h);have b9:=zh (fun(h:(unk (Ad s) (toN F) ((Aj s.ps.length (Ad s))[t]'ai)).length<=8) j (hj:j<(Aj s.ps.length (Ad s)).length) (h2:j<t+1)=>(by by_cases c:j=t;(· subst c;exact h);(· exact h8.o j hj (by omega)):(unk (Ad s) (toN F) ((Aj s.ps.length (Ad s))[j]'hj)).length<=8));rw[<-hc]at bg b9;have eS:(unk (Ad s) (toN F) c).length<=60:=zV H6 aG;obtain⟨m,hm⟩:∃m,m=(unk (Ad s) (toN F) c).length:=⟨_,rfl⟩;rw[<-hm]at ku bg b9 eS;replace hc:=zh hc;replace hm:=zh hm;replace ku:=zh ku;replace a6:=zh a6;replace a8:=zh a8;clear af aV aa
      go_wp2_with fail
      refine ku.o.mono ?_;rintro e w8 ⟨⟨Au,cu,rfl,_,_⟩,hb⟩;have ce:Hid (Below wz.heap.size wz w8):=aJ.o.trans (hb.mono aJ.o.size);clear hb ku
      by_cases hm8:8<m
      .have m3:decide (8<(m:Int))=true:=zH (by omega);have bT:=zh (bg.o hm8);have a2:=zh (ag.o.trans (ce.o.mono ag.o.size));replace hm8:=zh hm8;go_wp2;go_ret2;exact bI.o _ _ cE.o bT.o rfl a2.o
      have m3:decide (8<(m:Int))=false:=zD (by omega);have ez:=zh (b9.o (by omega));replace hm8:=zh hm8;clear b9 bg;go_wp2;exact⟨⟨t+1,ay.o,by go_num,ez,ce⟩,by have:=ay.o;simp only[intOf];omega⟩
     obtain rfl:t=(Aj s.ps.length (Ad s)).length:=by omega
     have dM:∀u,u∈CF s.ps.length (Ad s) (toN F) (Aj s.ps.length (Ad s)).length->u.length<=8:=fun u hu=>by unfold CF at hu;rw[yJ]at hu;obtain⟨c,hc,rfl⟩:=List.mem_map.1 hu;obtain⟨j,hj,rfl⟩:=zl hc;exact h8.o j hj hj
     have ea:=zh (Pa (n:=s.ps.length) (E:=Ad s) (F:=toN F) (by rw[<-a7.o];exact cM.o) dM);have em:Hid ((Df s.ps.length (Ad s) (toN F)).flatten.length<=16):=by have h:=cM.o;rw[a7.o,DI]at h;unfold Df;rw[DS];exact h
     have aH:=zh (ag.o.trans (aJ.o.mono ag.o.size));have aS:=zh (a.o.below aJ.o a.o.lt);have dN:=zh (cN.o.trans (aJ.o.mono cN.o.size));have ey:Hid (∀j (h:j<(Aj s.ps.length (Ad s)).length),(unk (Ad s) (toN F) ((Aj s.ps.length (Ad s))[j]'h)).length<=8):=fun j h=>h8.o j h h;clear eJ cZ cT ag a ei aJ h8 dM;obtain⟨wB,rfl⟩:∃z,z=wt:=⟨_,rfl⟩
     go_wp2_with fail
     have dS:Hid (Kp [ob] wB wB):=Kp.refl _ _;have d2:Hid (RowB wB ob s.ps.length fun j=>rq (EK s.ps.length (Ai s.cap) (toN F) 0 j)):=by rw[QM];exact aS.o
     clear aS
     go_loopw [15] (fun ix wr=>∃(t:Nat),t<=(Aj s.ps.length (Ad s)).length/\ix=.int .i64 (t:Int)/\Hid (Kp [ob] wB wr)/\Hid (RowB wr ob s.ps.length fun j=>rq (EK s.ps.length (Ai s.cap) (toN F) t j))) (fun ix _=>(Aj s.ps.length (Ad s)).length-(intOf ix).toNat)
     case atStart=>exact⟨0,zO _,rfl,dS,d2⟩
     case round=>
      clear dS d2;obtain⟨t,ht,rfl,bG,bs⟩:=hrel;obtain⟨wt,rfl⟩:∃z,z=wr:=⟨_,rfl⟩;have aF:Hid (Below w4.heap.size w4 wt):=bG.o.to_below dN.o (fun x hx=>by have:=ej.o;simp at hx;omega)
      by_cases ai:t<(Aj s.ps.length (Ad s)).length
      .skip
       obtain⟨eV,eW,da,ed,aV⟩:=(DJ cC.o aF.o) (by rw[bi.o];omega);subst da;have aZ:t<l.length:=by rw[bi.o];exact ai
       obtain⟨e1,af,_⟩:=aV t aZ;obtain⟨_,bS⟩:=GJ bO.o aZ;obtain⟨c,hc⟩:∃c,c=(Aj s.ps.length (Ad s))[t]'ai:=⟨_,rfl⟩;have aY:l[t].2.2=c.map fun(q:Nat)=>(q:Int):=by rw[hc];exact bS
       rw[aY]at e1 af;rw[zU]at e1;clear bS aY;obtain⟨aG,aa⟩:=bP.o t ai;rw[<-hc]at aG aa;have ku:=Mi l[t].1 Af Ar l[t].2.1 cf cr s.ps.length c F (Ad s) wt af (hF.o.below (aP.o.trans (aF.o.mono aP.o.size))) bF (bY.o.below aF.o) aa aG aq.o;obtain⟨ah,a6⟩:∃x,x=l[t].1:=⟨_,rfl⟩;obtain⟨ch,a8⟩:∃x,x=l[t].2.1:=⟨_,rfl⟩;rw[<-a6]at e1 ku;rw[<-a8]at e1 ku;have ay:Hid (t<(Aj s.ps.length (Ad s)).length):=ai;have eT:(0:Int)<=(t:Int):=by omega
       have eU:(t:Int)<((Aj s.ps.length (Ad s)).length:Int):=by omega
       have dC:(unk (Ad s) (toN F) ((Aj s.ps.length (Ad s))[t]'ai)).length<=8:=ey.o t ai;have aO:=T5 (n:=s.ps.length) (L:=Ai s.cap) (F:=toN F) (t:=t);have ar:=QN (n:=s.ps.length) (L:=Ai s.cap) (F:=toN F) (t:=t);have aE:=T6 (F:=toN F) (t:=t) aj.o;simp only[BO]at aO ar aE;replace aO:=aO ai;replace ar:=ar ai;replace aE:=aE em.o ai;rw[<-hc]at dC aO ar aE;obtain⟨u,hu⟩:∃u,u=unk (Ad s) (toN F) c:=⟨_,rfl⟩;rw[<-hu]at ku dC aO ar aE;have er:Hid (∀p,p∈u->p<s.ps.length):=fun p hp=>aa p (by rw[hu]at hp;exact(DR.1 hp).1);replace hc:=zh hc;replace hu:=zh hu;replace ku:=zh ku;replace a6:=zh a6;replace a8:=zh a8;replace aO:=zh aO;replace ar:=zh ar;replace aE:=zh aE;clear af aV aa
       go_wp2_with fail
       refine ku.o.mono ?_;rintro e w8 ⟨⟨Au,cu,rfl,bc,eo⟩,hb⟩;have df:=zh (bG.o.below hb);have a5:=zh (bs.o.below hb bs.o.lt);have bB:=aF.t hb;replace bc:=zh bc;have cV:Hid (∀b o,Au=some ⟨b,o,none⟩->b≠ob):=fun b o e h=>by have h1:=eo b o e;have h2:=bs.o.lt;omega
       clear hb ku bG bs aF eo
       by_cases bZ:u=[]
       .subst bZ;have cn:Hid (RowB w8 ob s.ps.length fun j=>rq (EK s.ps.length (Ai s.cap) (toN F) (t+1) j)):=by rw[aO.o rfl];exact a5.o
        clear ar aE er bc;simp only[yc];go_wp2;exact⟨⟨t+1,ay.o,by go_num,df,cn⟩,by have:=ay.o;simp only[intOf];omega⟩
       have aD:0<u.length:=by cases u with|nil=>exact absurd rfl bZ|cons _ _=>simp
       have m2:((u.length:Int)==0)=false:=by rw[zJ];omega
       replace ar:=zh (ar.o bZ);obtain⟨D,hD,aX,ad,cB⟩:=aE.o bZ;have az:=zh (aX.vals hD);obtain⟨val,b1⟩:∃v,v=EK s.ps.length (Ai s.cap) (toN F) t:=⟨_,rfl⟩;rw[<-b1]at a5 ar aX az;have eh:=zh ad.nodup;replace aX:=zh aX;replace ad:=zh ad;replace b1:=zh b1;clear aO aE bZ hD;have ep:Hid (∀i (h:i<u.length),u[i]<s.ps.length/\u.getD i 0=u[i]):=fun i h=>⟨er.o _ (zQ h),De h⟩;have dw:=zh (fun k h=>J5 al.o (k:=k) h);have aM:(Ai s.cap).length=s.cap.length:=by unfold Ai;rw[zU]
       replace aM:=zh aM;obtain⟨m,hm⟩:∃m,m=u.length:=⟨_,rfl⟩;rw[<-hm];rw[<-hm]at m2 dC aD;replace hm:=zh hm;have ec:Hid (RdJ w8 w8 m (fun _=>0) none none 0 0 0 0 (sysA (Ai s.cap) u val)):=RdJ.start
       go_wp2_with fail
       go_loopw [17,18,19] (fun va vb ix wr=>∃(i:Nat)(Aa Ab:Option Addr)(ca cb:Nat)(bl:Nat->Nat),i<=m/\va=.slice Aa i ca/\vb=.slice Ab i cb/\ix=.int .i64 (i:Int)/\Hid (RdJ w8 wr m bl Aa Ab ca cb i i (sysA (Ai s.cap) u val))) (fun _ _ ix _=>m-(intOf ix).toNat)
       case atStart=>exact⟨0,none,none,0,0,fun _=>0,zO _,rfl,rfl,rfl,ec⟩
       case round=>
        clear ec m2;obtain⟨i,Aa,Ab,ca,cb,bl,hi,rfl,rfl,rfl,hJ⟩:=hrel;obtain⟨wi,rfl⟩:∃z,z=wr:=⟨_,rfl⟩
        by_cases ao:i<m
        .have dx:=DA 27 underlying27 m (by omega);obtain⟨rb,bX⟩:∃x,x=wi.heap.size:=⟨_,rfl⟩;obtain⟨wx,b3⟩:∃W,W=(wi.alloc (.cells (AN m fun _=>zraw).toArray 34)):=⟨_,rfl⟩;have dQ:Hid (Below wi.heap.size wi wx):=by rw[b3];exact(zI _ wi).alloc (zB _) _
         have d1:Hid (RowB wx rb m fun j=>if j<0 then rq 0 else zraw):=by rw[b3,bX];refine RowB.congr (r:=fun _=>zraw) (zo wi _) fun j _=>?_;rw[zC (zi _)]
         have aC:Hid (wi.heap.size<=rb):=wE bX.symm;have k0:(0:Int)<=(i:Int):=by omega
         have k1:(i:Int)<(m:Int):=by omega
         go_wp2_with fail
         (try rw[<-b3])
         (try rw[<-bX])
         replace b3:=zh b3;replace bX:=zh bX;clear dx
         go_loopw [21] (fun ix wr=>∃(j:Nat),j<=m/\ix=.int .i64 (j:Int)/\Hid (Below wi.heap.size wi wr)/\Hid (RowB wr rb m fun x=>if x<j then rq 0 else zraw)) (fun ix _=>m-(intOf ix).toNat)
         case atStart=>exact⟨0,zO _,rfl,dQ,d1⟩
         case round=>
          clear dQ d1;obtain⟨j,hj,rfl,bk,bN⟩:=hrel;obtain⟨wj,rfl⟩:∃z,z=wr:=⟨_,rfl⟩
          by_cases hjm:j<m
          .have q0:(0:Int)<=(j:Int):=by omega
           have q1:(j:Int)<(m:Int):=by omega
           go_wp2_with fail
           refine(GM wj).q fun w6 hb=>?_;have ag:Hid (Below wi.heap.size wi w6):=bk.o.trans (hb.mono bk.o.size);have a:=zh (bN.o.below hb bN.o.lt);clear hb bk bN;obtain⟨r1,r2,r3⟩:=a.o.cell hjm;have f1:=a.o.frozen (j*3);have f2:=a.o.frozen (j*3+1);have f3:=a.o.frozen (j*3+2);have r9:=a.o.lt;generalize (if j<j then rq 0 else zraw)=rz at r1 r2 r3;have dP:Hid (Below wi.heap.size wi (((w6.setCell ⟨rb,j*3,none⟩ (.bool (rq (0)).1)).setCell ⟨rb,j*3+1,none⟩ (.string (rq (0)).2.1)).setCell ⟨rb,j*3+2,none⟩ (.string (rq (0)).2.2))):=((ag.o.setCell (p:=⟨rb,j*3,none⟩) aC.o _).setCell (p:=⟨rb,j*3+1,none⟩) aC.o _).setCell (p:=⟨rb,j*3+2,none⟩) aC.o _;have dY:Hid (RowB (((w6.setCell ⟨rb,j*3,none⟩ (.bool (rq (0)).1)).setCell ⟨rb,j*3+1,none⟩ (.string (rq (0)).2.1)).setCell ⟨rb,j*3+2,none⟩ (.string (rq (0)).2.2)) rb m fun x=>if x<j+1 then rq 0 else zraw):=(a.o.set hjm (rq 0)).congr fun x _=>by by_cases c:x=j;(· rw[zE c,zE (by omega)]);(· rw[zC c];by_cases d:x<j;(· rw[zE d,zE (by omega)]);(· rw[zC d,zC (by omega)]))
           go_wp2;exact⟨⟨j+1,by omega,by go_num,dP,dY⟩,by simp only[intOf];omega⟩
          obtain rfl:j=m:=by omega
          have aU:Hid (RowB wj rb j fun _=>rq 0):=bN.o.congr fun x hx=>by rw[zE hx]
          clear bN
          go_wp2_with fail
          refine(Mj wj).q fun w6 hb=>?_;have ag:Hid (Below wi.heap.size wi w6):=bk.o.trans (hb.mono bk.o.size);have a:=zh (aU.o.below hb aU.o.lt);clear hb bk aU;obtain⟨r1,r2,r3⟩:=a.o.cell ao;have f1:=a.o.frozen (i*3);have f2:=a.o.frozen (i*3+1);have f3:=a.o.frozen (i*3+2);have r9:=a.o.lt;obtain⟨w7,aA⟩:∃W,W=(((w6.setCell ⟨rb,i*3,none⟩ (.bool (rq (1)).1)).setCell ⟨rb,i*3+1,none⟩ (.string (rq (1)).2.1)).setCell ⟨rb,i*3+2,none⟩ (.string (rq (1)).2.2)):=⟨_,rfl⟩;have bC:Hid (Below wi.heap.size wi w7):=by rw[aA];exact((ag.o.setCell (p:=⟨rb,i*3,none⟩) aC.o _).setCell (p:=⟨rb,i*3+1,none⟩) aC.o _).setCell (p:=⟨rb,i*3+2,none⟩) aC.o _
          have bK:Hid (RowB w7 rb j fun x=>rq (B6 (Ai s.cap) u i 0 x)):=by rw[aA];exact(a.o.set ao (rq 1)).congr fun x _=>by rw[J3];by_cases c:x=i;(· rw[zE c,zE c.symm]);(· rw[zC c,zC (fun e=>c e.symm)])
          go_wp2_with fail
          (try rw[<-aA])
          replace aA:=zh aA;refine(GM w7).q fun w8b hb=>?_;have bf:Hid (Below wi.heap.size wi w8b):=bC.o.trans (hb.mono bC.o.size);have bL:=zh (bK.o.below hb bK.o.lt);clear hb ag a bC bK r1 r2 r3 f1 f2 f3 r9;obtain⟨gb,bx⟩:∃x,x=w8b.heap.size:=⟨_,rfl⟩;obtain⟨w9,bd⟩:∃W,W=(w8b.alloc (.cells #[.bool (rq (0)).1,.string (rq (0)).2.1,.string (rq (0)).2.2] 34)):=⟨_,rfl⟩;have a2:Hid (Below wi.heap.size wi w9):=by rw[bd];exact bf.o.alloc bf.o.size _
          have a4:Hid (RowB w9 rb j fun x=>rq (B6 (Ai s.cap) u i 0 x)):=by rw[bd];exact bL.o.alloc _
          have aQ:Hid (Bk w9 gb 34 [.bool (rq (AG (Ai s.cap) u val i 0)).1,.string (rq (AG (Ai s.cap) u val i 0)).2.1,.string (rq (AG (Ai s.cap) u val i 0)).2.2]):=by rw[bd,bx,J4];exact Bk.new _ _ _
          have bA:Hid (rb<gb/\wi.heap.size<=gb):=⟨by rw[bx];exact bL.o.lt,by rw[bx];exact bf.o.size⟩;have be:Hid (Below w4.heap.size w4 wi):=bB.o.trans (hJ.o.bw.mono bB.o.size);have di:=zh (cw.o.below (be.o.trans (a2.o.mono be.o.size)));have u1:=di.o.c1;have u9:=di.o.lt;rw[bd]at u1 u9
          go_wp2_with fail
          (try rw[<-bd])
          (try rw[<-bx])
          replace bd:=zh bd;replace bx:=zh bx;clear u1 u9 bf bL di
          go_loopw [23] (fun kx wr=>∃(c:Nat),c<=s.cap.length/\kx=.int .i64 (c:Int)/\Hid (Below wi.heap.size wi wr)/\Hid (RowB wr rb j fun x=>rq (B6 (Ai s.cap) u i c x))/\Hid (Bk wr gb 34 [.bool (rq (AG (Ai s.cap) u val i c)).1,.string (rq (AG (Ai s.cap) u val i c)).2.1,.string (rq (AG (Ai s.cap) u val i c)).2.2])) (fun kx _=>s.cap.length-(intOf kx).toNat)
          case atStart=>exact⟨0,zO _,rfl,a2,a4,aQ⟩
          case round=>
           clear a2 a4 aQ;obtain⟨c6,fa,rfl,cg,aU,cj⟩:=hrel;obtain⟨ab,rfl⟩:∃z,z=wr:=⟨_,rfl⟩;have cP:Hid (Below w4.heap.size w4 ab):=be.o.trans (cg.o.mono be.o.size);have cy:=zh (cw.o.below cP.o)
           by_cases hcl2:c6<s.cap.length
           .obtain ⟨b8,off,eA,eK,aV⟩:=(dA.o ab (aP.o.trans (cP.o.mono aP.o.size))).cap (by omega);subst eA;obtain⟨e1,e2,e3,e4,e5⟩:=aV c6 hcl2;obtain⟨co,ho,Ah,bR,ak,fc,eb⟩:=dw.o c6 hcl2;rw[bR]at e1 e2 e3 e4 e5;replace e1:ab.cell? ⟨b8,off+c6*5,none⟩=some (.int .i64 (co:Int)):=e1;replace e2:ab.cell? ⟨b8,off+c6*5+1,none⟩=some (.int .i64 (ho:Int)):=e2;replace e3:ab.cell? ⟨b8,off+c6*5+2,none⟩=some (.bool (rq Ah).1):=e3;replace e4:ab.cell? ⟨b8,off+c6*5+3,none⟩=some (.string (rq Ah).2.1):=e4;replace e5:ab.cell? ⟨b8,off+c6*5+4,none⟩=some (.string (rq Ah).2.2):=e5;obtain⟨cG,aN⟩:=ep.o i (by rw[<-hm.o];exact ao);obtain⟨p,hp⟩:∃p,p=u[i]'(by rw[<-hm.o];exact ao):=⟨_,rfl⟩;rw[<-hp]at cG aN;have ax:c6<(Ai s.cap).length:=by rw[aM.o];exact hcl2
            have bW:(Ai s.cap)[c6].2.2=Ah:=by rw[ak]
            have bU:=I3 aj.o ax;have eP:=zh (fun q=>L6 aj.o az.o ax q);rw[bW]at bU;replace bU:=zh bU;have dB:Hid (co≠p->(∀x,B6 (Ai s.cap) u i (c6+1) x=B6 (Ai s.cap) u i c6 x)/\AG (Ai s.cap) u val i (c6+1)=AG (Ai s.cap) u val i c6):=fun eN=>L5 ax (by rw[ak,aN];exact eN);have bh:Hid (co=p->∀t (ht:t<u.length),ho=u.getD t 0->(∀x,x<u.length->B6 (Ai s.cap) u i (c6+1) x=if x=t then B6 (Ai s.cap) u i c6 t-Ah else B6 (Ai s.cap) u i c6 x)/\AG (Ai s.cap) u val i (c6+1)=AG (Ai s.cap) u val i c6):=fun he t ht hh=>by have h:=SJ (val:=val) (i:=i) eh.o ax (by rw[ak,aN];exact he) ht (by rw[ak];exact hh);rw[bW]at h;exact⟨fun x hx=>by rw[h.1 x hx,VX],h.2⟩
            have bj:Hid (co=p->ho∉u->(∀x,x<u.length->B6 (Ai s.cap) u i (c6+1) x=B6 (Ai s.cap) u i c6 x)/\AG (Ai s.cap) u val i (c6+1)=AG (Ai s.cap) u val i c6+Ah*val ho):=fun he hh=>by have h:=OR (val:=val) (i:=i) ax (by rw[ak,aN];exact he) (by rw[ak];exact hh);rwa [ak]at h
            replace bR:=zh bR;replace ak:=zh ak;replace bW:=zh bW;replace ax:=zh ax;replace aN:=zh aN;clear aV;have c0:(0:Int)<=(c6:Int):=by omega
            have c1:(c6:Int)<(s.cap.length:Int):=by omega
            obtain⟨lb,ba⟩:∃x,x=ab.heap.size:=⟨_,rfl⟩;obtain⟨wa,a0⟩:∃W,W=(ab.alloc (.cells #[.int .i64 (co:Int),.int .i64 (ho:Int),.bool (rq Ah).1,.string (rq Ah).2.1,.string (rq Ah).2.2] 55)):=⟨_,rfl⟩;have a3:Hid (Below wi.heap.size wi wa):=by rw[a0];exact cg.o.alloc cg.o.size _
            have bq:Hid (RowB wa rb j fun x=>rq (B6 (Ai s.cap) u i c6 x)):=by rw[a0];exact aU.o.alloc _
            have ci:Hid (Bk wa gb 34 [.bool (rq (AG (Ai s.cap) u val i c6)).1,.string (rq (AG (Ai s.cap) u val i c6)).2.1,.string (rq (AG (Ai s.cap) u val i c6)).2.2]):=by rw[a0];exact cj.o.alloc _
            have bH:Hid (Bk wa lb 55 [.int .i64 (co:Int),.int .i64 (ho:Int),.bool (rq Ah).1,.string (rq Ah).2.1,.string (rq Ah).2.2]):=by rw[a0,ba];exact Bk.new _ _ _
            have eO:Hid (rb≠lb/\gb≠lb/\lb=ab.heap.size):=⟨by rw[ba];exact yb aU.o.lt,by rw[ba];exact yb cj.o.lt,ba⟩;have e6:Hid (Below ab.heap.size ab wa):=by rw[a0];exact(zI _ _).alloc (zB _) _
            have u1:=cy.o.c1;have u9:=cy.o.lt
            go_wp2_with fail
            (try rw[<-a0])
            (try rw[<-ba])
            replace a0:=zh a0;replace ba:=zh ba;clear u1 u9 e1 e2 e3 e4 e5 eK;obtain⟨ub,uo,cm,dD,b0⟩:=(bc.o.below (hJ.o.bw.trans (a3.o.mono hJ.o.bw.size))) (by rw[zU,<-hm.o];omega);subst cm;have e1:=b0 i (by rw[zU,<-hm.o];exact ao);rw[yA,<-hp]at e1;replace hp:=zh hp;clear b0;have HT:Hid (∀W,Below wa.heap.size wa W->(fun W=>W.cell? ⟨lb,0,none⟩=some (.int .i64 (co:Int))/\W.cell? ⟨ub,uo+i,none⟩=some (.int .i64 (p:Int))) W):=fun W h=>⟨(bH.o.below h).c0,(h.cell (p:=⟨ub,uo+i,none⟩) dD).trans e1⟩;clear e1
            by_cases hcp:co=p
            rotate_left
            .have t1:((co:Int) != (p:Int))=true:=by rw[zj];omega
             replace hcp:=zh hcp;refine Gm (by kernel_rfl) (by kernel_rfl) ?_
             repeat (
              with_reducible refine wpQuiet_step (fun K hK=>?_)
              first
               |(refine Bd.IF (by rfl) ?_;refine hK _ ?_;clear hK K;(try simp only[Act.put,zA,zG,zF]))
               |(refine Bd.IG (by rfl) ?_
                 go_simp;apply Exists.intro;refine⟨fun W hW=>?_,hK _ ?_⟩
                 first
                  |(with_reducible exact(trivial:True))
                  |(obtain⟨q1,q2⟩:=HT.o W hW;go_simp<;>with_reducible rfl)
                 clear hK K))
             refine wpQuiet_nil ?_;intro wf aw;have am:Hid (Below wi.heap.size wi wf):=a3.o.trans (aw.mono a3.o.size);have aT:=zh (bq.o.below aw bq.o.lt);have aR:=zh (ci.o.below aw);have av:=zh (bH.o.below aw);clear HT aw bq ci bH a3;have ad:=dB.o hcp.o;have aL:Hid (RowB wf rb j fun x=>rq (B6 (Ai s.cap) u i (c6+1) x)):=aT.o.congr fun x _=>by rw[ad.1 x]
             have au:Hid (Bk wf gb 34 [.bool (rq (AG (Ai s.cap) u val i (c6+1))).1,.string (rq (AG (Ai s.cap) u val i (c6+1))).2.1,.string (rq (AG (Ai s.cap) u val i (c6+1))).2.2]):=by rw[ad.2];exact aR.o
             clear ad dB bh bj aT aR av;go_wp2;exact⟨⟨c6+1,by omega,by go_num,am,aL,au⟩,by simp only[intOf];omega⟩
            have t1:((co:Int) != (p:Int))=false:=by rw[yo];omega
            replace hcp:=zh hcp;refine Gm (by kernel_rfl) (by kernel_rfl) ?_
            repeat (
             with_reducible refine wpQuiet_step (fun K hK=>?_)
             first
              |(refine Bd.IF (by rfl) ?_;refine hK _ ?_;clear hK K;(try simp only[Act.put,zA,zG,zF]))
              |(refine Bd.IG (by rfl) ?_
                go_simp;apply Exists.intro;refine⟨fun W hW=>?_,hK _ ?_⟩
                first
                 |(with_reducible exact(trivial:True))
                 |(obtain⟨q1,q2⟩:=HT.o W hW;go_simp<;>with_reducible rfl)
                clear hK K))
            refine wpQuiet_nil ?_;intro wf aw;have am:Hid (Below wi.heap.size wi wf):=a3.o.trans (aw.mono a3.o.size);have aT:=zh (bq.o.below aw bq.o.lt);have aR:=zh (ci.o.below aw);have av:=zh (bH.o.below aw);clear HT aw bq ci bH a3;clear dB t1;have kx:=Kz (some ⟨ub,uo,none⟩) cu (u.map fun(q:Nat)=>(q:Int)) (ho:Int) wf (bc.o.below (hJ.o.bw.trans (am.o.mono hJ.o.bw.size))) (by rw[zU,<-hm.o];omega);rw[zU,<-hm.o]at kx;have y1:=av.o.c1;have y9:=av.o.lt
            by_cases aD:ho∈u
            .obtain⟨t6,cJ,cK⟩:∃t,t<u.length/\ho=u.getD t 0:=⟨u.idxOf ho,List.idxOf_lt_length_iff.2 aD,(EY aD).symm⟩;have a9:Eo (u.map fun(q:Nat)=>(q:Int)) (ho:Int)=(t6:Int):=Vc eh.o cJ cK;have ad:=bh.o hcp.o t6 cJ cK;rw[a9]at kx;rw[<-hm.o]at cJ ad;replace ad:=zh ad;replace kx:=zh kx;replace a9:=zh a9;replace aD:=zh aD;replace cK:=zh cK;have t2:decide ((0:Int)<=(t6:Int))=true:=zH (by omega)
             go_wp2_with fail
             refine kx.o.q fun wxx b5=>?_;obtain rfl:=b5.symm;clear kx y1 y9
             go_wp2_with fail
             refine Xc rb lb j t6 _ (B6 (Ai s.cap) u i c6 t6) Ah _ _ wf cJ (by omega) aT.o rfl av.o eO.o.1 (FT aj.o) bU.o ?_;intro _ _ _ _ _ _ _ _ _ _ _ _ _ we bM bn;have cR:Hid (Below wi.heap.size wi we):=bn.o.to_below am.o (fun x hx=>by have:=aC.o;simp at hx;omega);replace am:=cR;have aL:Hid (RowB we rb j fun x=>rq (B6 (Ai s.cap) u i (c6+1) x)):=bM.o.congr fun x hx=>by rw[ad.o.1 x hx];split<;>rfl
             have au:Hid (Bk we gb 34 [.bool (rq (AG (Ai s.cap) u val i (c6+1))).1,.string (rq (AG (Ai s.cap) u val i (c6+1))).2.1,.string (rq (AG (Ai s.cap) u val i (c6+1))).2.2]):=by rw[ad.o.2];exact aR.o.kp bn.o (by have:=bA.o;simp;omega)
             clear bM bn aT aR av cR bh bj;go_wp2;exact⟨⟨c6+1,by omega,by go_num,am,aL,au⟩,by simp only[intOf];omega⟩
            have a9:Eo (u.map fun(q:Nat)=>(q:Int)) (ho:Int)=-1:=SM aD;have ad:=bj.o hcp.o aD;rw[a9]at kx;rw[<-hm.o]at ad;replace ad:=zh ad;replace kx:=zh kx;replace a9:=zh a9;replace aD:=zh aD;have cF:=eP.o ho;rw[bW.o]at cF;replace cF:=zh cF
            go_wp2_with fail
            refine kx.o.q fun wxx b5=>?_;obtain rfl:=b5.symm;clear kx y1 y9;have d3:Hid (∀W,Below wi.heap.size wi W->RowB W ob s.ps.length fun x=>rq (val x)):=fun W h=>a5.o.below (hJ.o.bw.trans (h.mono hJ.o.bw.size)) a5.o.lt;have ew:Hid (∀W,Calls prog 55 #[.agg #[.bool (rq (Ah)).1,.string (rq (Ah)).2.1,.string (rq (Ah)).2.2],.agg #[.bool (rq (val ho)).1,.string (rq (val ho)).2.1,.string (rq (val ho)).2.2]] W fun e w'=>e=.returned (.tuple #[.agg #[.bool (rq (Ah*val ho)).1,.string (rq (Ah*val ho)).2.1,.string (rq (Ah*val ho)).2.2],.int .i64 0])/\Below W.heap.size W w'):=fun W=>DW Ah (val ho) bU.o (az.o.short ho) W;have HT:Hid (∀W,Below wf.heap.size wf W->(fun W=>W.cell? ⟨lb,1,none⟩=some (.int .i64 (ho:Int))/\W.cell? ⟨lb,2,none⟩=some (.bool (rq (Ah)).1)/\W.cell? ⟨lb,3,none⟩=some (.string (rq (Ah)).2.1)/\W.cell? ⟨lb,4,none⟩=some (.string (rq (Ah)).2.2)/\W.cell? ⟨ob,ho*3,none⟩=some (.bool (rq (val ho)).1)/\W.cell? ⟨ob,ho*3+1,none⟩=some (.string (rq (val ho)).2.1)/\W.cell? ⟨ob,ho*3+2,none⟩=some (.string (rq (val ho)).2.2)) W):=fun W h=>⟨(av.o.below h).c1,(av.o.below h).c2,(av.o.below h).c3,(av.o.below h).c4,(d3.o W (am.o.trans (h.mono am.o.size))).cell eb⟩
            go_wp2_with fail
            refine Xb lb ob s.ps.length ho _ _ _ _ _ _ _ _ _ wf HT.o eb ew.o ?_;intro _ _ _ _ _ _ _ _ _ _ _ we eX b4 cz eQ;have db:Hid (Below wi.heap.size wi we):=am.o.trans (cz.o.mono am.o.size);have dh:=zh (aT.o.below cz.o aT.o.lt);have bm:=zh (aR.o.below cz.o);have fe:Hid (gb≠eX):=by have h1:=aR.o.lt;have h2:=eQ.o;unfold Hid;omega
            clear aT aR av HT am cz;have eu:Hid (Calls prog 56 #[.agg #[.bool (rq (AG (Ai s.cap) u val i c6)).1,.string (rq (AG (Ai s.cap) u val i c6)).2.1,.string (rq (AG (Ai s.cap) u val i c6)).2.2],.agg #[.bool (rq (Ah*val ho)).1,.string (rq (Ah*val ho)).2.1,.string (rq (Ah*val ho)).2.2]] we fun e w'=>e=.returned (.tuple #[.agg #[.bool (rq (AG (Ai s.cap) u val i c6+Ah*val ho)).1,.string (rq (AG (Ai s.cap) u val i c6+Ah*val ho)).2.1,.string (rq (AG (Ai s.cap) u val i c6+Ah*val ho)).2.2],.int .i64 0])/\Below we.heap.size we w'):=Hl (AG (Ai s.cap) u val i c6) (Ah*val ho) (FU aj.o az.o) cF.o we;have g0:=bm.o.c0;have g1:=bm.o.c1;have g2:=bm.o.c2;have g9:=bm.o.lt;have y0:=b4.o.c0;have y1:=b4.o.c1;have y2:=b4.o.c2;have y9:=b4.o.lt
            go_wp2_with fail
            refine eu.o.q fun wg hb=>?_;have eD:Hid (Below wi.heap.size wi wg):=db.o.trans (hb.mono db.o.size);have d0:=zh (dh.o.below hb dh.o.lt);have aK:=zh (bm.o.below hb);clear hb eu db dh bm g0 g1 g2 g9 y0 y1 y2 y9 b4;have g0:=aK.o.c0;have g1:=aK.o.c1;have g2:=aK.o.c2;have g3:=aK.o.frozen 0;have g4:=aK.o.frozen 1;have g5:=aK.o.frozen 2;have g9:=aK.o.lt;have am:Hid (Below wi.heap.size wi (((wg.setCell ⟨gb,0,none⟩ (.bool (rq (AG (Ai s.cap) u val i c6+Ah*val ho)).1)).setCell ⟨gb,1,none⟩ (.string (rq (AG (Ai s.cap) u val i c6+Ah*val ho)).2.1)).setCell ⟨gb,2,none⟩ (.string (rq (AG (Ai s.cap) u val i c6+Ah*val ho)).2.2))):=GN eD.o bA.o.2 _ _ _;have aL:Hid (RowB (((wg.setCell ⟨gb,0,none⟩ (.bool (rq (AG (Ai s.cap) u val i c6+Ah*val ho)).1)).setCell ⟨gb,1,none⟩ (.string (rq (AG (Ai s.cap) u val i c6+Ah*val ho)).2.1)).setCell ⟨gb,2,none⟩ (.string (rq (AG (Ai s.cap) u val i c6+Ah*val ho)).2.2)) rb j fun x=>rq (B6 (Ai s.cap) u i (c6+1) x)):=((((d0.o.far (p:=⟨gb,0,none⟩) (by have:=bA.o;show rb≠gb;omega) _).far (p:=⟨gb,1,none⟩) (by have:=bA.o;show rb≠gb;omega) _).far (p:=⟨gb,2,none⟩) (by have:=bA.o;show rb≠gb;omega) _)).congr fun x hx=>by rw[ad.o.1 x hx]
            have au:Hid (Bk (((wg.setCell ⟨gb,0,none⟩ (.bool (rq (AG (Ai s.cap) u val i c6+Ah*val ho)).1)).setCell ⟨gb,1,none⟩ (.string (rq (AG (Ai s.cap) u val i c6+Ah*val ho)).2.1)).setCell ⟨gb,2,none⟩ (.string (rq (AG (Ai s.cap) u val i c6+Ah*val ho)).2.2)) gb 34 [.bool (rq (AG (Ai s.cap) u val i (c6+1))).1,.string (rq (AG (Ai s.cap) u val i (c6+1))).2.1,.string (rq (AG (Ai s.cap) u val i (c6+1))).2.2]):=by rw[ad.o.2];exact KB aK.o _ _ _
            clear d0 aK bh bj ew d3;go_wp2;exact⟨⟨c6+1,by omega,by go_num,am,aL,au⟩,by simp only[intOf];omega⟩
           obtain rfl:c6=s.cap.length:=by omega
           have aL:Hid (RowB ab rb j fun x=>rq (sysA (Ai s.cap) u val i x)):=aU.o.congr fun x hx=>by rw[<-aM.o,I0 (val:=val) (by rw[<-hm.o];exact hx)]
           have au:Hid (Bk ab gb 34 [.bool (rq (sysA (Ai s.cap) u val i j)).1,.string (rq (sysA (Ai s.cap) u val i j)).2.1,.string (rq (sysA (Ai s.cap) u val i j)).2.2]):=by have h:=cj.o;rw[<-aM.o,I1,<-hm.o]at h;exact h
           have eG:=zh (hJ.o.below cg.o);have u1:=cy.o.c1;have u9:=cy.o.lt;have g0:=au.o.c0;have g1:=au.o.c1;have g2:=au.o.c2;have g9:=au.o.lt;obtain⟨i0,dk,b6⟩:=Option.map_eq_some_iff.1 Kf;simp only[Prod.mk.injEq]at b6;obtain⟨dJ,dK,dL⟩:=b6;replace dk:=zh dk;replace dJ:=zh dJ;replace dK:=zh dK;replace dL:=zh dL;obtain⟨i1,dl,b6⟩:=Option.map_eq_some_iff.1 infoQ;simp only[Prod.mk.injEq]at b6;obtain⟨dG,dH,dI⟩:=b6;replace dl:=zh dl;replace dG:=zh dG;replace dH:=zh dH;replace dI:=zh dI;have ds:Hid (RdJ w8 (ab.alloc (.cells #[.slice (some ⟨rb,0,none⟩) j j] 27)) j bl Aa Ab ca cb i i (sysA (Ai s.cap) u val)):=eG.o.below ((zI _ _).alloc (zB _) _);have dZ:Hid (RowB (ab.alloc (.cells #[.slice (some ⟨rb,0,none⟩) j j] 27)) rb j fun x=>rq (sysA (Ai s.cap) u val i x)):=aL.o.alloc _;have dR:Hid (Bk (ab.alloc (.cells #[.slice (some ⟨rb,0,none⟩) j j] 27)) gb 34 [.bool (rq (sysA (Ai s.cap) u val i j)).1,.string (rq (sysA (Ai s.cap) u val i j)).2.1,.string (rq (sysA (Ai s.cap) u val i j)).2.2]):=au.o.alloc _;have cD:Hid (w8.heap.size<=rb/\(Value.slice Aa i ca).ownBlock≠some rb/\(Value.slice Ab i cb).ownBlock≠some rb/\(Value.slice Aa i ca).ownBlock≠some gb):=⟨zV hJ.o.bw.size aC.o,fun e=>by have h1:=(hJ.o.oa.lt _ e).2;have h2:=aC.o;omega,fun e=>by have h1:=(hJ.o.ob.lt _ e).2;have h2:=aC.o;omega,fun e=>by have h1:=(hJ.o.oa.lt _ e).2;have h2:=bA.o;omega⟩;have had:Hid (∀x v,[(.slice (some ⟨rb,0,none⟩) j j:Value)][x]? = some v->(ab.alloc (.cells #[.slice (some ⟨rb,0,none⟩) j j] 27)).cell? (Addr.add ⟨ab.heap.size,0,none⟩ x)=some v):=Ci.BA ab _ 27;have eL:Hid (w8.heap.size<=(ab.alloc (.cells #[.slice (some ⟨rb,0,none⟩) j j] 27)).heap.size):=ds.o.bw.size;clear aU cj dw
           go_wp2_with (first|(at_builtin;refine Ci.wpList_append_new _ rfl _ _ 77 rfl w8.heap.size 27 i0 (.slice none 0 0) 1 24 underlying77 dk.o dJ.o dK.o dL.o rfl (by decide) (.slice Aa i ca) i ((List.range i).map fun k=>.slice (some ⟨bl k,0,none⟩) j j) rfl ds.o.oa ⟨ab.heap.size,0,none⟩ 1 1 [.slice (some ⟨rb,0,none⟩) j j] rfl rfl had.o (Ci.AQ _ rfl) (by omega) (by unfold maxLen;omega) (by omega) eL.o ?_;intro v9 wa ho hg hn;obtain⟨A9,d9,e9,de⟩:=ds.o.appA dZ.o cD.o.1 cD.o.2.1 cD.o.2.2.1 ho hg hn;subst e9;have aQ:=dR.o.grown hg (fun e=>cD.o.2.2.2 e.symm);have y0:=aQ.c0;have y1:=aQ.c1;have y2:=aQ.c2;have y9:=aQ.lt;have dt:=zh (de.below ((zI _ _).alloc (zB _) (.cells #[.bool (rq (sysA (Ai s.cap) u val i j)).1,.string (rq (sysA (Ai s.cap) u val i j)).2.1,.string (rq (sysA (Ai s.cap) u val i j)).2.2] 34)));have d7:=zh dt.o.bw.size;have d5:=zh (Ft wa (rq (sysA (Ai s.cap) u val i j)).1 (rq (sysA (Ai s.cap) u val i j)).2.1 (rq (sysA (Ai s.cap) u val i j)).2.2 34);replace de:=zh de;clear ho hg hn aQ)|(at_builtin;refine Ci.wpList_append_new _ rfl _ _ 27 rfl w8.heap.size 34 i1 (.agg #[.bool false,.string ⟨#[]⟩,.string ⟨#[]⟩]) 3 40 underlying27 dl.o dG.o dH.o dI.o rfl (by decide) (.slice Ab i cb) i (AN i fun k=>rq (sysA (Ai s.cap) u val k j)) rfl dt.o.ob ⟨wa.heap.size,0,none⟩ 1 1 (CI (rq (sysA (Ai s.cap) u val i j))) rfl rfl d5.o (DC _) (by omega) (by unfold maxLen;omega) (by omega) d7.o ?_;intro v9 wb ho hg hn;obtain⟨A8,d8,e8,dd⟩:=dt.o.appB ho hg hn;subst e8;replace dd:=zh dd;clear ho hg hn))
           exact⟨⟨i+1,A9,A8,d9,d8,_,by omega,rfl,rfl,by go_num,dd⟩,by simp only[intOf];omega⟩
        obtain rfl:i=m:=by omega
        obtain⟨la,cU,c9,c8⟩:∃la:List RowH,la.length=u.length/\SysIn wi Aa Ab la (DN (Ai s.cap) u val)/\AJ la=CC (Ai s.cap) u val:=RdJ.slv (w:=w8) (bl:=bl) (ca:=ca) (cb:=cb) (by have h:=hJ.o;rw[hm.o]at h;exact h) aj.o az.o (by have:=hm.o;omega);have kS9:=T0 (ca:=ca) (cb:=cb) aj.o aX.o ad.o cB (by have:=hm.o;omega) cU c9 c8;rw[<-hm.o]at kS9;replace kS9:=zh kS9;clear cU c9 c8;have dU:Hid (Kp [ob] wB wi):=df.o.below hJ.o.bw;have cq:Hid (RowB wi ob s.ps.length fun x=>rq (val x)):=a5.o.below hJ.o.bw a5.o.lt;have en:Hid (InInt wi Au (u.map fun(q:Nat)=>(q:Int))):=bc.o.below hJ.o.bw;clear hJ df a5 bc dw bB
        go_wp2_with fail
        refine kS9.o.mono ?_;rintro e w9 ⟨⟨px,cx,rfl,dF,et⟩,hb⟩;have dT:Hid (Kp [ob] wB w9):=dU.o.below hb;have cn:Hid (RowB w9 ob s.ps.length fun x=>rq (val x)):=cq.o.below hb cq.o.lt;have eR:Hid (InInt w9 Au (u.map fun(q:Nat)=>(q:Int))):=en.o.below hb;have cX:Hid (∀b o,px=some ⟨b,o,none⟩->b≠ob):=fun b o e h=>by have h1:=et b o e;have h2:=cq.o.lt;omega
        replace dF:=zh dF;clear hb kS9 dU cq en et;have dV:Hid (Kp [ob] w9 w9):=Kp.refl _ _;have dW:Hid (RowB w9 ob s.ps.length fun x=>rq (Fb (Ai s.cap) u val 0 x)):=by rw[LC];exact cn.o
        clear cn
        go_wp2_with fail
        go_loopw [30] (fun kx wr=>∃(k:Nat),k<=i/\kx=.int .i64 (k:Int)/\Hid (Kp [ob] w9 wr)/\Hid (RowB wr ob s.ps.length fun x=>rq (Fb (Ai s.cap) u val k x))) (fun kx _=>i-(intOf kx).toNat)
        case atStart=>exact⟨0,zO _,rfl,dV,dW⟩
        case round=>
         clear dV dW;obtain⟨k,hk,rfl,bo,ck⟩:=hrel;obtain⟨wk,rfl⟩:∃z,z=wr:=⟨_,rfl⟩
         by_cases hki:k<i
         .obtain⟨ub,uo,cm,dD,b0⟩:=(inInt_kp eR.o bo.o (fun b o e=>by have:=cV.o b o e;simpa using this)) (by rw[zU,<-hm.o];omega);obtain⟨a1,xo,d4,dE,es⟩:=(Ta dF.o bo.o (fun b o e=>by have:=cX.o b o e;simpa using this)) (by rw[Aq];omega);have ef:Hid (ub≠ob):=cV.o _ _ cm;have eg:Hid (a1≠ob):=cX.o _ _ d4;subst cm;subst d4;have e1:=b0 k (by rw[zU,<-hm.o];exact hki);rw[yA]at e1;obtain⟨x1,x2,x3⟩:=es k (by rw[Aq];exact hki);rw[Ej]at x1 x2 x3;obtain⟨cG,aN⟩:=ep.o k (by rw[<-hm.o];exact hki);rw[aN]at x1 x2 x3;have ee:=LD (L:=Ai s.cap) (val:=val) (u:=u) (i:=k) (by rw[<-hm.o];exact hki);obtain⟨p,hp⟩:∃p,p=u[k]'(by rw[<-hm.o];exact hki):=⟨_,rfl⟩;rw[<-hp]at e1 cG x1 x2 x3;obtain⟨b7,cH⟩:∃q,q=Ct SQ (Ai s.cap) u val p:=⟨_,rfl⟩;rw[<-cH]at x1 x2 x3;have cS:Hid (RowB wk ob s.ps.length fun x=>rq (Fb (Ai s.cap) u val k x)):=ck.o;have cW:Hid (∀x,(if x=p then rq b7 else rq (Fb (Ai s.cap) u val k x))=rq (Fb (Ai s.cap) u val (k+1) x)):=fun x=>by rw[<-ee x,<-hp,<-cH];split<;>rfl
          replace hp:=zh hp;replace cH:=zh cH;clear ee b0 es aN;have q0:(0:Int)<=(k:Int):=by omega
          have q1:(k:Int)<(i:Int):=by omega
          have q2:(0:Int)<=(p:Int):=by omega
          have q3:(p:Int)<(s.ps.length:Int):=by omega
          have eF:Hid (Below wk.heap.size wk wk.drew):=(zI _ wk).drew;have HT:Hid (∀W,Below wk.heap.size wk W->(fun W=>W.cell? ⟨ub,uo+k,none⟩=some (.int .i64 (p:Int))/\W.cell? ⟨a1,xo+k*3,none⟩=some (.bool (rq (b7)).1)/\W.cell? ⟨a1,xo+k*3+1,none⟩=some (.string (rq (b7)).2.1)/\W.cell? ⟨a1,xo+k*3+2,none⟩=some (.string (rq (b7)).2.2)) W):=fun W h=>⟨(h.cell (p:=⟨ub,uo+k,none⟩) dD).trans e1,(h.cell (p:=⟨a1,xo+k*3,none⟩) dE).trans x1,(h.cell (p:=⟨a1,xo+k*3+1,none⟩) dE).trans x2,(h.cell (p:=⟨a1,xo+k*3+2,none⟩) dE).trans x3⟩
          go_wp2_with fail
          refine Xd ub uo a1 xo ob s.ps.length i k p cu cx (rq b7) _ wk HT.o hki cG cS.o ef.o eg.o ?_;intro _ _ _ _ _ _ _ _ _ _ we bM bn;have dg:Hid (Kp [ob] w9 we):=kp_trans bo.o bn.o (fun y hy=>.inl hy);have eH:Hid (RowB we ob s.ps.length fun x=>rq (Fb (Ai s.cap) u val (k+1) x)):=bM.o.congr fun x _=>cW.o x;clear bM bn HT cW cS bo ck eF;go_wp2;exact⟨⟨k+1,by omega,by go_num,dg,eH⟩,by simp only[intOf];omega⟩
         obtain rfl:k=i:=by omega
         have dg:Hid (Kp [ob] wB wk):=kp_trans dT.o bo.o (fun y hy=>.inl hy);have eI:Hid (RowB wk ob s.ps.length fun x=>rq (EK s.ps.length (Ai s.cap) (toN F) (t+1) x)):=by rw[ar.o];exact ck.o.congr fun x _=>by rw[hm.o,OZ]
         clear bo ck dT;go_wp2;exact⟨⟨t+1,ay.o,by go_num,dg,eI⟩,by have:=ay.o;simp only[intOf];omega⟩
      obtain rfl:t=(Aj s.ps.length (Ad s)).length:=by omega
      have cL:=T4 (n:=s.ps.length) (L:=Ai s.cap) (F:=toN F);rw[BO]at cL;have aL:Hid (RowB wt ob s.ps.length fun x=>rq (Hq SQ s.ps.length (Ai s.cap) (toN F) x)):=by rw[<-cL];exact bs.o
      have eC:Hid (Below w.heap.size w wt):=bG.o.to_below aH.o (fun x hx=>by have:=cY.o;simp at hx;omega);replace cL:=zh cL;clear bs bG;go_wp2;go_ret2;exact dc.o _ _ ob cE.o ea.o rfl (xA cY.o) aL.o eC.o
theorem Mp(s:SR)(Ap Ac Av Af:Option Addr)(cp cc cv cf:Nat)(F:List Int)(w:World)(hE:Env w)(hs:StIn w s Ap Ac Av)(hF:InInt w Af F)(av:F.length<=140737488355328):
 Calls prog 4 #[.agg #[.slice Ap s.ps.length cp,.slice Ac s.cap.length cc,.slice Av s.vot.length cv],.slice Af F.length cf] w fun e w'=>e=.returned (.bool true)/\Below w.heap.size w w':=by
 have aw:Hid (Bk (w.alloc (.cells #[.slice Ap s.ps.length cp,.slice Ac s.cap.length cc,.slice Av s.vot.length cv] 25)) w.heap.size 25 (SC s Ap Ac Av cp cc cv)):=Bk.new w _ _;have am:Hid (Below w.heap.size w (w.alloc (.cells #[.slice Ap s.ps.length cp,.slice Ac s.cap.length cc,.slice Av s.vot.length cv] 25))):=(zI _ w).alloc (zB _) _;replace hE:=zh hE;replace hs:=zh hs;replace hF:=zh hF;go_enter func4,ntmps4
 go_wp2_with fail
 refine(NJ _ (hE.o.below am.o)).q fun w2 hb=>?_;have ah:=zh (aw.o.below hb);have an:=am.t hb;clear hb aw am;have u0:=ah.o.c0;have u1:=ah.o.c1;have u2:=ah.o.c2;have u9:=ah.o.lt;have kf:=zh (Q0 s Ap Ac Av cp cc cv w2 (hs.o.below an.o))
 go_wp2_with fail
 refine kf.o.mono ?_;rintro e w3 ⟨⟨r,rfl,hr⟩,hb⟩;have af:=zh (ah.o.below hb);have ab:=an.t hb;clear hb ah an;clear u0 u1 u2 u9;clear kf;replace hr:=zh hr
 cases r with
 |false=>
  go_wp2;go_ret;exact⟨rfl,ab.o⟩
 |true=>
  obtain⟨aC,aA,aB⟩:=hr.o rfl;clear hr
  by_cases hlF:10<F.length
  .have m1:decide ((10:Int)<(F.length:Int))=true:=zH (by omega);have n1:decide (10<F.length)=true:=zH (by omega);replace hlF:=zh hlF;go_wp2;go_ret;exact⟨rfl,ab.o⟩
  have m1:decide ((10:Int)<(F.length:Int))=false:=zD (by omega);have n1:decide (10<F.length)=false:=zD (by omega);have u0:=af.o.c0;have u1:=af.o.c1;have u2:=af.o.c2;have u9:=af.o.lt;have kc:=LK s Ap Ac Av Af cp cc cv cf F w3 (hE.o.below ab.o) (hs.o.below ab.o) (by omega) (by omega) (hF.o.below ab.o) (by omega)
  by_cases hg1:Am s=true/\Be s.ps.length F=true
  rotate_left
  .have al:Hid (Calls prog 13 #[.agg #[.slice Ap s.ps.length cp,.slice Ac s.cap.length cc,.slice Av s.vot.length cv],.slice Af F.length cf] w3 fun e w'=>e=.returned (.tuple #[.slice none 0 0,.int .i64 1])/\Below w3.heap.size w3 w'):=kc.mono fun e w' h=>⟨by have h1:=h.1;rw[zC hg1]at h1;exact h1,h.2⟩;clear kc;replace hg1:=zh hg1
   go_wp2_with fail
   refine al.o.q fun w4 hb=>?_;have a:=zh (af.o.below hb);have ad:=ab.t hb;clear hb af ab;clear u0 u1 u2 u9;clear al m1 n1;have u0:=a.o.c0;have u1:=a.o.c1;have u2:=a.o.c2;have u9:=a.o.lt;have kd:Hid (Calls prog 14 #[.agg #[.slice Ap s.ps.length cp,.slice Ac s.cap.length cc,.slice Av s.vot.length cv],.slice Af F.length cf] w4 fun e w'=>e=.returned (.tuple #[.slice none 0 0,.int .i64 1])/\Below w4.heap.size w4 w'):=(Mo s Ap Ac Av Af cp cc cv cf F w4 (hs.o.below ad.o) (by omega) (hF.o.below ad.o) av).mono fun e w' h=>⟨by have h1:=h.1;rw[zC hg1.o]at h1;exact h1,h.2⟩
   go_wp2_with fail
   refine kd.o.q fun w5 hb=>?_;have ak:=zh (a.o.below hb);have ag:=ad.t hb;clear hb a ad;clear u0 u1 u2 u9;clear kd
   have ks:Hid (Calls prog 15 #[.slice none 0 0,.slice none 0 0] w5 fun e w'=>e=.returned (.bool true)/\Below w5.heap.size w5 w'):=by
    have h:=FS none none 0 0 [] [] w5 (fun h=>absurd h (by decide)) (fun h=>absurd h (by decide)) (by decide);rw[zH rfl]at h;exact h
   go_wp2_with fail
   refine ks.o.q fun w6 hb=>?_;have az:=zh (ak.o.below hb);have ao:=ag.t hb;clear hb ak ag;clear ks;go_wp2;go_ret;exact⟨rfl,ao.o⟩
  have al:Hid (Calls prog 13 #[.agg #[.slice Ap s.ps.length cp,.slice Ac s.cap.length cc,.slice Av s.vot.length cv],.slice Af F.length cf] w3 fun e w'=>(∃b,e=.returned (.tuple #[.slice (some ⟨b,0,none⟩) s.ps.length s.ps.length,.int .i64 0])/\RowB w' b s.ps.length fun p=>rq (ev s F p))/\Below w3.heap.size w3 w'):=kc.mono fun e w' h=>⟨by have h1:=h.1;rw[zE hg1]at h1;obtain⟨b,e1,_,e2⟩:=h1;exact⟨b,e1,e2⟩,h.2⟩;clear kc;replace hg1:=zh hg1
  go_wp2_with fail
  refine al.o.mono ?_;rintro e w4 ⟨⟨ar,rfl,ai⟩,hb⟩;have a:=zh (af.o.below hb);have ad:=ab.t hb;clear hb af ab;have ae:=zh ai;clear ai;clear u0 u1 u2 u9;clear al m1 n1;have u0:=a.o.c0;have u1:=a.o.c1;have u2:=a.o.c2;have u9:=a.o.lt;have aq:=Et F hg1.o.1 (by omega);have kd:Hid (Calls prog 14 #[.agg #[.slice Ap s.ps.length cp,.slice Ac s.cap.length cc,.slice Av s.vot.length cv],.slice Af F.length cf] w4 fun e w'=>(∃b,e=.returned (.tuple #[.slice (some ⟨b,0,none⟩) s.ps.length s.ps.length,.int .i64 0])/\RowB w' b s.ps.length fun p=>rq (ev s F p))/\Below w4.heap.size w4 w'):=(Mo s Ap Ac Av Af cp cc cv cf F w4 (hs.o.below ad.o) (by omega) (hF.o.below ad.o) av).mono fun e w' h=>⟨by have h1:=h.1;rw[zE hg1.o,zC (by rw[aq];decide)]at h1;obtain⟨b,e1,_,e2⟩:=h1;exact⟨b,e1,e2⟩,h.2⟩;replace aq:=zh aq
  go_wp2_with fail
  refine kd.o.mono ?_;rintro e w5 ⟨⟨au,rfl,aj⟩,hb⟩;have ak:=zh (a.o.below hb);have ag:=ad.t hb;have d:=zh (ae.o.below hb ae.o.lt);clear hb a ad ae;have aa:=zh aj;clear aj;clear u0 u1 u2 u9;clear kd
  have ks:Hid (Calls prog 15 #[.slice (some ⟨ar,0,none⟩) s.ps.length s.ps.length,.slice (some ⟨au,0,none⟩) s.ps.length s.ps.length] w5 fun e w'=>e=.returned (.bool true)/\Below w5.heap.size w5 w'):=by
   have h:=FS (some ⟨ar,0,none⟩) (some ⟨au,0,none⟩) s.ps.length s.ps.length (B5 s.ps.length (ev s F)) (B5 s.ps.length (ev s F)) w5 (DG d.o) (DG aa.o) (by rw[Aq];omega);rw[Aq,zH rfl]at h;exact h
  go_wp2_with fail
  refine ks.o.q fun w6 hb=>?_;have az:=zh (ak.o.below hb);have ao:=ag.t hb;have ax:=zh (d.o.below hb d.o.lt);have ay:=zh (aa.o.below hb aa.o.lt);clear hb ak ag d aa;clear ks;go_wp2;go_ret;exact⟨rfl,ao.o⟩
end Sh
end
end Go.Proofs.YtmfjbpcecpgchaaGreatDoor

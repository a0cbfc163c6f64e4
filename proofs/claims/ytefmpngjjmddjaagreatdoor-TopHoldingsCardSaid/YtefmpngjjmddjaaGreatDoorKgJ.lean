/- Parts of the proof. -/
import Derived.Test.YtefmpngjjmddjaaGreatDoorKgI
set_option maxHeartbeats 64000000
set_option maxRecDepth 1000000
open Go.Proofs.Tryz
namespace Go.Proofs.YtefmpngjjmddjaaGreatDoor
theorem tkgJ{P:Program}{md:Region.Mode}{ops:Array Oper}{Q:Exit->Act->World->Prop}{S:World->Prop}{oi:Oper}{v:Value}{fuel:Nat}{listed:Array Bool}{a:Act}{w:World}(i:Nat)(hi:ops[i]?=some oi)(hS:S w)(hy:YieldsIf P ops S oi v a)(h:wpAnyH P md ops Q S fuel (listed.setIfInBounds i true) (a.put oi.dst v) w)(hs:Region.noSelect ops=true:=by kernel_rfl)(hf:Region.free md ops listed i=true:=by kernel_rfl)(hr:(Region.ready md ops listed).contains i=true:=by kernel_rfl)(hQ:∀c a w,Q (.panic c) (a.put oi.dst v) w->Q (.panic c) a w:=by exact fun _ _ _ h=>h):wpAnyH P md ops Q S (fuel+1) listed a w:=xY hi hs hf hr hQ hy hS h
section
open Go.RowKit Go.Shelf
namespace Sh
open Nt Ci
theorem Wd:(prog.info? 81).map (fun i=>(i.zero,i.size,i.bytes))=some (some (.pointer none),1,8):=by kernel_rfl
theorem PW{n:Nat}{F:List Int}(h:AZ n F=true):F.length<=n:=by
 have hk:∀k (hk:k<F.length),(k:Int)<=F[k]:=fun k=>by
  induction k with
  |zero=>intro hk;exact(Et h hk).1.1
  |succ k ih=>
   intro hk;have h1:=ih (by omega);have h2:=(Et h hk).2 (by omega);simp only[wQ]at h2;omega
 by_cases h0:0<F.length
 .have h1:=hk (F.length-1) (by omega);have h2:=(Et h (by omega:F.length-1<F.length)).1.2;omega
 omega
theorem I1{W W':World}{A:Option Addr}{l:List (Option Addr×Nat×List Int)}(h:SB W A l)(hb:Below W.heap.size W W'):SB W' A l:=fun h0=>by
 obtain⟨b,off,e,hl,hc⟩:=h h0;exact⟨b,off,e,zJ hl hb.size,fun j hj=>⟨(hb.cell (p:=⟨b,_,none⟩) hl).trans (hc j hj).1,(hc j hj).2.1.below hb,(hc j hj).2.2⟩⟩
theorem VMC.off{w:World}{vb mb n C b o:Nat}{val:Nat->Rat}{x:Value}(h:VMC w vb mb n val C)(hc:w.cell? ⟨b,o,none⟩=some x):b≠mb:=fun e=>by
 obtain⟨c,f,⟨D,⟨es,clock,hb,_⟩,_⟩,_⟩:=h.m;subst e;rw[World.cell?,hb]at hc
 cases hc
def I2(s:SR)(F:List Int)(w:World)(e:Ending)(w':World):Prop :=
 (if Ao s=true/\AZ s.ps.length F=true then
   (if AX s.ps.length (Ag s) (toN F)=true then e=.returned (.tuple #[.slice none 0 0,.int .i64 2])
    else ∃b,e=.returned (.tuple #[.slice (some ⟨b,0,none⟩) s.ps.length s.ps.length,.int .i64 0])/\w.heap.size<=b/\RowB w' b s.ps.length fun p=>rq (L3 SQ s.ps.length (A4 s.cap) (toN F) p))
   else e=.returned (.tuple #[.slice none 0 0,.int .i64 1]))/\Below w.heap.size w w'
theorem K4(s:SR)(Ap Ac Av Af:Option Addr)(cp cc cv cf:Nat)(F:List Int)(w:World)(hE:Env w)(hs:StIn w s Ap Ac Av)(cH:s.cap.length<=300)(hF:InInt w Af F)(dr:F.length<=140737488355328):
 Calls prog 12 #[.agg #[.slice Ap s.ps.length cp,.slice Ac s.cap.length cc,.slice Av s.vot.length cv],.slice Af F.length cf] w (I2 s F w):=by
 have ep:=hs.np;have ab:Hid (Bk (w.alloc (.cells #[.slice Ap s.ps.length cp,.slice Ac s.cap.length cc,.slice Av s.vot.length cv] 32)) w.heap.size 32 (SC s Ap Ac Av cp cc cv)):=Bk.new w _ _;have aj:Hid (Below w.heap.size w (w.alloc (.cells #[.slice Ap s.ps.length cp,.slice Ac s.cap.length cc,.slice Av s.vot.length cv] 32))):=(zI _ w).alloc (zB _) _;have a9:Hid (∀e w',(¬(Ao s=true/\AZ s.ps.length F=true))->e=.returned (.tuple #[.slice none 0 0,.int .i64 1])->Below w.heap.size w w'->I2 s F w e w'):=fun e w' h1 h2 h3=>⟨by rw[zC h1];exact h2,h3⟩;have bg:Hid (∀e w',Ao s=true/\AZ s.ps.length F=true->AX s.ps.length (Ag s) (toN F)=true->e=.returned (.tuple #[.slice none 0 0,.int .i64 2])->Below w.heap.size w w'->I2 s F w e w'):=fun e w' h1 h2 h3 h4=>⟨by rw[zD h1,zD h2];exact h3,h4⟩;have be:Hid (∀e w' b,Ao s=true/\AZ s.ps.length F=true->AX s.ps.length (Ag s) (toN F)=false->e=.returned (.tuple #[.slice (some ⟨b,0,none⟩) s.ps.length s.ps.length,.int .i64 0])->w.heap.size<=b->RowB w' b s.ps.length (fun p=>rq (L3 SQ s.ps.length (A4 s.cap) (toN F) p))->Below w.heap.size w w'->I2 s F w e w'):=fun e w' b h1 h2 h3 h4 h5 h6=>⟨by rw[zD h1,zC (by rw[h2];decide)];exact⟨b,h3,h4,h5⟩,h6⟩;have kS:=fun W (h:Below w.heap.size w W)=>EZ s Ap Ac Av cp cc cv W (hE.below h) (hs.below h);have c8:Hid (∀W,Below w.heap.size w W->StIn W s Ap Ac Av):=fun W h=>hs.below h;have kR:=zh (fun W (h:Below w.heap.size w W)=>JF s Ap Ac Av Af cp cc cv cf F W (hE.below h) (c8.o W h) cH (hF.below h) dr);have kC:=zh (fun W (h:Below w.heap.size w W)=>EM s Ap Ac Av cp cc cv W (hE.below h) (c8.o W h) cH);have kP:=fun W (h:Below w.heap.size w W)=>K2 Af cf (s.ps.length:Int) F W (hF.below h) dr;replace hE:=zh hE;replace hs:=zh hs;replace hF:=zh hF
 cases ae:Ao s with
 |false=>
  have cX:Hid (¬(Ao s=true/\AZ s.ps.length F=true)):=fun h=>by rw[ae]at h;cases h.1
  rw[ae]at kS;replace kS:=zh kS;replace ae:=zh ae;have u0:=ab.o.c0;have u1:=ab.o.c1;have u2:=ab.o.c2;have u9:=ab.o.lt;go_enter func12,ntmps12
  go_wp2_with fail
  go_step3
  go_wp2_with fail
  refine(kS.o _ aj.o).q fun w1 hb=>?_;have aB:=aj.t hb;have ad:=zh (ab.o.below hb);clear hb kS aj ab u0 u1 u2 u9;go_wp2;rw[vE];go_ret2;exact a9.o _ _ cX.o rfl aB.o
 |true=>
  rw[ae]at kS;replace kS:=zh kS;replace ae:=zh ae
  cases av:AZ s.ps.length F with
  |false=>
   have cX:Hid (¬(Ao s=true/\AZ s.ps.length F=true)):=fun h=>by rw[av]at h;cases h.2
   rw[av]at kP;replace kP:=zh kP;replace av:=zh av;have u0:=ab.o.c0;have u1:=ab.o.c1;have u2:=ab.o.c2;have u9:=ab.o.lt;go_enter func12,ntmps12
   go_wp2_with fail
   go_step3
   go_wp2_with fail
   refine(kS.o _ aj.o).q fun w1 hb=>?_;have aB:=aj.t hb;have ad:=zh (ab.o.below hb);clear hb kS aj ab u0 u1 u2 u9;have u0:=ad.o.c0;have u1:=ad.o.c1;have u2:=ad.o.c2;have u9:=ad.o.lt
   go_wp2_with fail
   refine(kP.o _ aB.o).q fun wq hq=>?_;obtain rfl:=hq.symm;go_wp2;rw[vE];go_ret2;exact a9.o _ _ cX.o rfl aB.o
  |true=>
   rw[av]at kP;replace kP:=zh kP;have u0:=ab.o.c0;have u1:=ab.o.c1;have u2:=ab.o.c2;have u9:=ab.o.lt;go_enter func12,ntmps12
   go_wp2_with fail
   go_step3
   go_wp2_with fail
   refine(kS.o _ aj.o).q fun w1 hb=>?_;have aB:=aj.t hb;have ad:=zh (ab.o.below hb);clear hb kS aj ab u0 u1 u2 u9;have u0:=ad.o.c0;have u1:=ad.o.c1;have u2:=ad.o.c2;have u9:=ad.o.lt
   go_wp2_with fail
   refine(kP.o _ aB.o).q fun wq hq=>?_;obtain rfl:=hq.symm;clear u0 u1 u2 u9;have bW:Hid (Ao s=true/\AZ s.ps.length F=true):=⟨ae.o,av⟩;have eu:=PW av;have eo:=J6 ae.o;replace av:=zh av;clear kP a9;have kR1:=zh (kR.o w1 aB.o);have u0:=ad.o.c0;have u1:=ad.o.c1;have u2:=ad.o.c2;have u9:=ad.o.lt
   go_wp2_with fail
   refine kR1.o.mono ?_;rintro e w2 ⟨hr,hb⟩;rw[zD bW.o]at hr;obtain⟨rkb,rfl,cj,bY⟩:=hr;have aH:=aB.t hb;have a3:=zh (ad.o.below hb);replace bY:=zh bY;replace cj:=zh cj;clear hb kR kR1 u0 u1 u2 u9 ad;have kC1:=zh (kC.o w2 aH.o);have u0:=a3.o.c0;have u1:=a3.o.c1;have u2:=a3.o.c2;have u9:=a3.o.lt
   go_wp2_with fail
   refine kC1.o.mono ?_;rintro e w4 ⟨hr,hb⟩;rw[zD ae.o]at hr;obtain⟨Al,cl,l,rfl,bS,bP⟩:=hr;have bK:=aH.t hb;have cF:=zh (a3.o.below hb);have ck:=zh (bY.o.below hb);replace bS:=zh bS;replace bP:=zh bP;clear hb kC kC1 u0 u1 u2 u9 a3 bY aH;have ee:=@run_makeMap prog;obtain⟨mb,bT⟩:∃x,x=w4.heap.size:=⟨_,rfl⟩;obtain⟨vb,bE⟩:∃x,x=w4.heap.size+1:=⟨_,rfl⟩;obtain⟨w5,bF⟩:∃W,W=((w4.alloc (.map #[] 0)).alloc (.cells #[.map (some w4.heap.size)] 77)):=⟨_,rfl⟩;have dk:Hid (Below w4.heap.size w4 w5):=by rw[bF];exact((zI _ w4).alloc (zB _) _).alloc (by simp) _
   have bk:Hid (VMC w5 vb mb s.ps.length (Hh (toN F) 0) 0):=by rw[bF,bE,bT,PQ];exact⟨by have h:=Bk.new (w4.alloc (.map #[] 0)) 77 [.map (some w4.heap.size)];rw[zX]at h;exact h,⟨0,fun _=>none,(MapK.made w4 prog 3 κi).alloc _,zB _,fun _ _=>rfl⟩,by omega⟩
   go_wp2_with fail
   (try rw[<-bF])
   (try rw[<-bE])
   replace bF:=zh bF;replace bE:=zh bE;replace bT:=zh bT;clear ee;have bG:Hid (w.heap.size<w4.heap.size):=cF.o.lt;have an:=zh (fun W (h:Below w4.heap.size w4 W)=>bK.o.trans (h.mono bK.o.size));have aW:Hid (mb=w4.heap.size/\vb=w4.heap.size+1):=⟨bT.o,bE.o⟩
   go_loopw [54] (fun ix wr=>∃(k:Nat),k<=F.length/\ix=.int .i64 (k:Int)/\Hid (Below w4.heap.size w4 wr)/\Hid (VMC wr vb mb s.ps.length (Hh (toN F) k) k)) (fun ix _=>F.length-(intOf ix).toNat)
   case atStart=>exact⟨0,zQ _,rfl,dk,bk⟩
   case round=>
    clear dk bk;obtain⟨k,hk,rfl,am,ai⟩:=hrel;obtain⟨wz,rfl⟩:∃z,z=wr:=⟨_,rfl⟩
    by_cases hkl:k<F.length
    .obtain⟨p,cY,eE,cZ⟩:=Nz av.o hkl;obtain⟨fb,fo,rfl,eA,aJ⟩:=(hF.o.below (an.o _ am.o)) (by omega);have e1:=aJ k hkl;rw[cY]at e1;clear aJ;have j0:(0:Int)<=(k:Int):=by omega
     have j1:(k:Int)<(F.length:Int):=by omega
     replace cY:=zh cY;replace cZ:=zh cZ
     go_wp2_with fail
     refine ef9 vb mb s.ps.length k p (Hh (toN F) k) wz (hE.o.below (an.o _ am.o)) ai.o (by omega) (by omega) ?_;intro _ _ _ we bm aD;have dW:Hid (Below w4.heap.size w4 we):=aD.o.to_below am.o (fun x hx=>by have:=aW.o.1;simp at hx;omega);have cE:Hid (VMC we vb mb s.ps.length (Hh (toN F) (k+1)) (k+1)):=bm.o.congr fun x _=>(PR cZ.o x).symm;clear bm aD am ai;go_wp2;exact⟨⟨k+1,by omega,by go_num,dW,cE⟩,by simp only[intOf];omega⟩
    obtain rfl:k=F.length:=by omega
    have d8:=zh (cF.o.below am.o);have dN:=zh (ck.o.below am.o);have dJ:=zh (I1 bS.o am.o);have a8:=zh (an.o _ am.o);clear cF ck bS an
    go_wp2_with fail
    go_step3
    go_wp2_with fail
    have cV:l.length=(Ar s.ps.length (Ag s)).length:=by have:=congrArg List.length bP.o;simpa [baR,Dv] using this
    have aR:Hid (VMC wz vb mb s.ps.length (Hh (toN F) F.length) F.length):=ai;have db:Hid (mb<wz.heap.size/\vb<wz.heap.size):=⟨ai.o.lt,ai.o.x.lt⟩;clear ai;have bR:Hid (InN s.ps.length (Ag s)):=by rw[<-Cg];exact(CW ae.o).inN
    have d9:(Ar s.ps.length (Ag s)).length<=60:=by have h1:=G6 (n:=s.ps.length) (E:=Ag s);have h2:=Sg bR.o;omega
    have cK:Hid (∀t (h:t<(Ar s.ps.length (Ag s)).length),((Ar s.ps.length (Ag s))[t]).length<=60/\∀p,p∈(Ar s.ps.length (Ag s))[t]->p<s.ps.length):=fun t h=>⟨by have h1:=Cv _ _ (GW h) (I0 bR.o h);omega,I0 bR.o h⟩;obtain⟨i0,cR,bJ⟩:=Option.map_eq_some_iff.1 FG;simp only[Prod.mk.injEq]at bJ;obtain⟨dg,dh,di⟩:=bJ;replace cR:=zh cR;replace dg:=zh dg;replace dh:=zh dh;replace di:=zh di;obtain⟨i1,cT,bJ⟩:=Option.map_eq_some_iff.1 Wd;simp only[Prod.mk.injEq]at bJ;obtain⟨dc,dd,de⟩:=bJ;replace cT:=zh cT;replace dc:=zh dc;replace dd:=zh dd;replace de:=zh de;have cg:=zh cV;rw[cV];clear cV;have dw:Hid (SyM wz wz.heap.size (.slice none 0 0) []):=SyM.start _ _;have dM:Hid (Value.int .i64 0=.int .i64 ((CO s.ps.length (Ag s) (toN F) 0).flatten.length:Nat)):=rfl
    go_loopw [14,15,65] (fun vx rx ix wr=>∃(t:Nat)(Es:List Ent)(Ay:Option Addr)(cy:Nat),t<=(Ar s.ps.length (Ag s)).length/\ix=.int .i64 (t:Int)/\rx=.int .i64 ((CO s.ps.length (Ag s) (toN F) t).flatten.length:Nat)/\vx=.slice Ay Es.length cy/\Hid (Es.map Ent.u=GC s.ps.length (Ag s) (toN F) t)/\Hid (SyM wr wz.heap.size (.slice Ay Es.length cy) Es)/\Hid (∀u,u∈CO s.ps.length (Ag s) (toN F) t->u.length<=8)/\Hid (Below wz.heap.size wz wr)) (fun _ _ ix _=>(Ar s.ps.length (Ag s)).length-(intOf ix).toNat)
    case atStart=>exact⟨0,[],none,0,zQ _,rfl,dM.o,rfl,rfl,dw,(fun u h=>by cases h),zI _ _⟩
    case round=>
     clear dw dM;obtain⟨t,Es,Ay,cy,ht,rfl,rfl,rfl,bc,al,h8,ar⟩:=hrel;obtain⟨wt,rfl⟩:∃z,z=wr:=⟨_,rfl⟩
     by_cases htl:t<(Ar s.ps.length (Ag s)).length
     .obtain ⟨eK,eL,rfl,em,aJ⟩:=(I1 dJ.o ar.o) (by rw[cg.o];omega);have cq:t<l.length:=by rw[cg.o];exact htl
      obtain⟨e1,az,_⟩:=aJ t cq;obtain⟨_,dK⟩:=PS bP.o cq;rw[dK]at e1 az;rw[zW]at e1;obtain⟨b9,bQ⟩:=cK.o t htl;have a6:=N9 (E:=Ag s) (F:=toN F) htl;have aM:=zh (fun h=>SL (F:=toN F) htl h);have aL:=zh (fun h=>PT (F:=toN F) htl h);have ay:=zh (fun h=>SM (F:=toN F) htl h);have aX:=Fh (E:=Ag s) (F:=toN F) htl;have dE:(CO s.ps.length (Ag s) (toN F) (t+1)).flatten.length<=60:=by have h1:=JH (n:=s.ps.length) (E:=Ag s) (F:=toN F) (t:=t+1);have h2:=Is (F:=toN F) (CW ae.o);rw[Cg]at h2;omega
      obtain⟨c,hc⟩:∃c,c=((Ar s.ps.length (Ag s))[t]):=⟨_,rfl⟩;rw[<-hc]at e1 az b9 bQ a6 aM aL ay aX;have a1:Hid ((unk (Ag s) (toN F) c).length<=8->∀u,u∈CO s.ps.length (Ag s) (toN F) (t+1)->u.length<=8):=fun h u hu=>by rw[aX,yQ,ym]at hu;exact hu.elim (h8.o u) (fun e=>by rw[e];exact h)
      replace hc:=zh hc;replace aX:=zh aX;replace az:=zh az;replace bQ:=zh bQ;obtain⟨ah,cG⟩:∃x,x=l[t].1:=⟨_,rfl⟩;obtain⟨ch,cJ⟩:∃x,x=l[t].2.1:=⟨_,rfl⟩;rw[<-cG]at e1 az;rw[<-cJ]at e1;replace cG:=zh cG;replace cJ:=zh cJ;clear aJ dK;obtain⟨R0,ag⟩:∃x,x=(CO s.ps.length (Ag s) (toN F) t).flatten.length:=⟨_,rfl⟩;obtain⟨R1,bh⟩:∃x,x=(CO s.ps.length (Ag s) (toN F) (t+1)).flatten.length:=⟨_,rfl⟩;rw[<-ag,<-bh]at a6;rw[<-bh]at dE;rw[<-ag];have eI:(0:Int)<=(t:Int):=by omega
      have eJ:(t:Int)<((Ar s.ps.length (Ag s)).length:Int):=by omega
      obtain⟨xb,bI⟩:∃x,x=wt.heap.size:=⟨_,rfl⟩;obtain⟨wu,bH⟩:∃W,W=(wt.alloc (.cells #[.slice none 0 0,.slice none 0 0,.slice none 0 0] 84)):=⟨_,rfl⟩;have dm:Hid (Below wt.heap.size wt wu):=by rw[bH];exact(zI _ wt).alloc (zB _) _
      have dq:Hid (EntB wu wt.heap.size xb none 0 []):=by rw[bH,bI];exact EntB.start (Bk.new wt _ _)
      have dS:Hid (wt.heap.size<=xb):=wl bI.symm
      go_wp2_with fail
      (try rw[<-bH])
      (try rw[<-bI])
      replace bH:=zh bH;replace bI:=zh bI;replace ag:=zh ag;replace bh:=zh bh;have cI:Hid (c.length<=60):=b9;have aN:Hid (t<(Ar s.ps.length (Ag s)).length):=htl;have b4:=zh (fun W (h:Below wt.heap.size wt W)=>(ar.o.trans (h.mono ar.o.size):Below wz.heap.size wz W))
      go_loopw [73] (fun jx wr=>∃(i:Nat)(A:Option Addr)(cu:Nat),i<=c.length/\jx=.int .i64 (i:Int)/\Hid (EntB wr wt.heap.size xb A cu (unk (Ag s) (toN F) (c.take i)))/\Hid (Below wt.heap.size wt wr)) (fun jx _=>c.length-(intOf jx).toNat)
      case atStart=>exact⟨0,none,0,zQ _,rfl,dq,dm⟩
      case round=>
       clear dq dm;obtain⟨i,A,cu,hi,rfl,af,aq⟩:=hrel;obtain⟨wi,rfl⟩:∃z,z=wr:=⟨_,rfl⟩
       by_cases hil:i<c.length
       .obtain ⟨ew,eD,rfl,en,aJ⟩:=(az.o.below aq.o) (by rw[zW];omega);have e1:=aJ i (by rw[zW];exact hil);rw[zz]at e1;have bX:=bQ.o _ (zN hil);have aw:=SO (E:=Ag s) (F:=toN F) hil;have b0:(unk (Ag s) (toN F) (c.take i)).length<=60:=zS Ox (by rw[yt];omega);obtain⟨p,hp⟩:∃p,p=c[i]:=⟨_,rfl⟩;rw[<-hp]at e1 bX aw;replace hp:=zh hp;clear aJ;have cm:=zh ((dN.o.below (b4.o _ aq.o)));have r1:=cm.o.cell p bX;have r9:=cm.o.lt;have j0:(0:Int)<=(i:Int):=by omega
        have j1:(i:Int)<(c.length:Int):=by omega
        have q0:(0:Int)<=(p:Int):=by omega
        have q1:(p:Int)<(s.ps.length:Int):=by omega
        generalize rk (Ag s) (toN F) p=rv at r1 aw
        by_cases hrv:0<rv
        rotate_left
        .have t1:decide (0<rv)=false:=zH hrv;rw[zC hrv,xN]at aw;have bb:Hid (EntB wi wt.heap.size xb A cu (unk (Ag s) (toN F) (c.take (i+1)))):=by rw[aw];exact af.o
         replace aw:=zh aw;replace hrv:=zh hrv;clear af;go_wp2;exact⟨⟨i+1,A,cu,by omega,by go_num,bb,aq⟩,by simp only[intOf];omega⟩
        have t1:decide (0<rv)=true:=zG hrv;rw[zD hrv]at aw;replace hrv:=zh hrv;obtain⟨m,hm⟩:∃m,m=(unk (Ag s) (toN F) (c.take i)).length:=⟨_,rfl⟩;have x0:=af.o.x.c0;have x9:=af.o.x.lt;rw[<-hm]at x0 b0;have bM:Hid (EntB (wi.alloc (.cells #[.int .i64 (p:Int)] 3)) wt.heap.size xb A cu (unk (Ag s) (toN F) (c.take i))):=af.o.below ((zI _ wi).alloc (zB _) _);have dY:Hid (Below wt.heap.size wt (wi.alloc (.cells #[.int .i64 (p:Int)] 3))):=aq.o.alloc aq.o.size _;have had:Hid (∀j u,[Value.int .i64 (p:Int)][j]? = some u->(wi.alloc (.cells #[.int .i64 (p:Int)] 3)).cell? (Addr.add ⟨wi.heap.size,0,none⟩ j)=some u):=Ci.BH wi _ 3;have dO:Hid ((wi.alloc (.cells #[.int .i64 (p:Int)] 3)).ownsRow wt.heap.size 3 1 (.slice A m cu) m (Bw (unk (Ag s) (toN F) (c.take i)))):=by have h:=bM.o.o;rw[<-hm]at h;exact h
        have dC:Hid (wt.heap.size<=(wi.alloc (.cells #[.int .i64 (p:Int)] 3)).heap.size):=dY.o.size;have cr:=zh b0
        have eg:Hid (∀v' w',w'.ownsRow wt.heap.size 3 1 v' (m+1) (Bw (unk (Ag s) (toN F) (c.take i))++[.int .i64 (p:Int)])->(wi.alloc (.cells #[.int .i64 (p:Int)] 3)).grownBy w' (Value.slice A m cu).ownBlock->(v'.ownBlock=(Value.slice A m cu).ownBlock\/v'.ownBlock=some (wi.alloc (.cells #[.int .i64 (p:Int)] 3)).heap.size)->∃A' c',v'=.slice A' (m+1) c'/\EntB (w'.setCell ⟨xb,0,none⟩ v') wt.heap.size xb A' c' (unk (Ag s) (toN F) (c.take (i+1)))/\Bk w' xb 84 [.slice A m cu,.slice none 0 0,.slice none 0 0]/\Below wt.heap.size wt w'):=fun v' w' h1 h2 h3=>by
         rw[hm]at h1 h2 h3;obtain⟨A',c',q1,q2,q3⟩:=bM.o.step h1 h2 h3;rw[aw,hm];refine⟨A',c',q1,q2,q3,?_⟩;exact((Kp.refl [] wi).alloc (.cells #[.int .i64 (p:Int)] 3)).to_below aq.o (fun x hx=>by simp at hx) |>.trans ⟨h2.os,h2.tape,h2.output,h2.size,fun k hk=>h2.block k (zJ hk dC.o) fun e=>by have:=(bM.o.o.lt k e.symm).1;omega⟩
        replace hm:=zh hm;replace aw:=zh aw;clear af bM
        go_wp2_with (at_builtin;refine Ci.wpList_append_new _ rfl _ _ 37 rfl wt.heap.size 3 i0 (.int .i64 0) 1 8 underlying37 cR.o dg.o dh.o di.o rfl (by decide) (.slice A m cu) m (Bw (unk (Ag s) (toN F) (c.take i))) rfl dO.o ⟨wi.heap.size,0,none⟩ 1 1 [.int .i64 (p:Int)] rfl rfl had.o (Ci.AM _ rfl) (by decide) (by have:=cr.o;unfold maxLen;omega) (by have:=cr.o;omega) dC.o ?_;intro v' w' ho hg hn;obtain⟨A',c',da,bb,b1,aH⟩:=eg.o v' w' ho hg hn;replace bb:=zh bb;replace aH:=zh aH;have z0:=b1.frozen 0;have z1:=b1.c0;have z9:=b1.lt;clear ho hg hn b1 x0 x9;subst da)
        exact⟨⟨i+1,A',c',by omega,by go_num,bb,((Kp.refl [xb] _).set _ (.inl (by simp))).to_below aH.o (fun x hx=>by have:=dS.o;simp at hx;omega)⟩,by simp only[intOf];omega⟩
       obtain rfl:i=c.length:=by omega
       rw[zn]at af;have b0:(unk (Ag s) (toN F) c).length<=60:=zS Ox cI.o;have b5:=zh (b4.o _ aq.o);have b7:=zh (al.o.below aq.o);obtain⟨u,hu⟩:∃u,u=unk (Ag s) (toN F) c:=⟨_,rfl⟩;rw[<-hu]at af b0 a6 a1 aM aL ay;replace hu:=zh hu;have x0:=af.o.x.c0;have x9:=af.o.x.lt;have bu:Hid (Value.int .i64 ((R0:Int)+(u.length:Int))=.int .i64 ((CO s.ps.length (Ag s) (toN F) (t+1)).flatten.length:Nat)):=by rw[<-bh.o,a6];go_num
       have el:R0+u.length<=60:=by omega
       replace a6:=zh a6
       by_cases bA:u=[]
       .subst bA;have bd:Hid (Es.map Ent.u=GC s.ps.length (Ag s) (toN F) (t+1)):=by rw[aM.o rfl];exact bc.o
        have ct:=zh (a1.o (by simp));simp only[ye]at x0 bu;clear aM aL ay a1 af;go_wp2;exact⟨⟨t+1,Es,Ay,cy,aN.o,by go_num,bu.o,rfl,bd,b7,ct,b5⟩,by have:=aN.o;simp only[intOf];omega⟩
       have eG:0<u.length:=by cases u with|nil=>exact absurd rfl bA|cons _ _=>simp
       have m2:((u.length:Int)==0)=false:=by rw[zP];omega
       have dL:=zh (aL.o bA);replace bA:=zh bA;clear aM aL;have aP:Hid (Below w.heap.size w wi):=a8.o.trans (b5.o.mono a8.o.size)
       by_cases hu8:8<u.length
       .have m3:decide (8<(u.length:Int))=true:=zG (by omega);have bo:=zh (ay.o hu8);replace hu8:=zh hu8;clear ay a1 af;go_wp2;rw[vE];go_ret2;exact bg.o _ _ bW.o bo.o rfl aP.o
       have m3:decide (8<(u.length:Int))=false:=zH (by omega);have ct:=zh (a1.o (by omega));have cM:Es.length<=60:=by have h1:=congrArg List.length bc.o;have h2:=LK (n:=s.ps.length) (E:=Ag s) (F:=toN F) (t:=t);rw[zW]at h1;have:=aN.o;omega
       obtain⟨q,hq⟩:∃q,q=Es.length:=⟨_,rfl⟩;have bO:Hid (Below wt.heap.size wt (wi.alloc (.cells #[.pointer (some ⟨xb,0,none⟩)] 81))):=aq.o.alloc aq.o.size _;have bs:Hid ((wi.alloc (.cells #[.pointer (some ⟨xb,0,none⟩)] 81)).ownsRow wz.heap.size 81 1 (.slice Ay q cy) q (Es.map Ent.pt)):=by rw[hq];exact AC al.o.row bO.o
       have dz:Hid (∀j u,[Value.pointer (some ⟨xb,0,none⟩)][j]? = some u->(wi.alloc (.cells #[.pointer (some ⟨xb,0,none⟩)] 81)).cell? (Addr.add ⟨wi.heap.size,0,none⟩ j)=some u):=Ci.BH wi _ 81;have b8:Hid (wz.heap.size<=(wi.alloc (.cells #[.pointer (some ⟨xb,0,none⟩)] 81)).heap.size):=zS ar.o.size bO.o.size
       have dQ:Hid (∀v' w',w'.ownsRow wz.heap.size 81 1 v' (q+1) (Es.map Ent.pt++[.pointer (some ⟨xb,0,none⟩)])->(wi.alloc (.cells #[.pointer (some ⟨xb,0,none⟩)] 81)).grownBy w' (Value.slice Ay q cy).ownBlock->(v'.ownBlock=(Value.slice Ay q cy).ownBlock\/v'.ownBlock=some (wi.alloc (.cells #[.pointer (some ⟨xb,0,none⟩)] 81)).heap.size)->∃Ay' cy',v'=.slice Ay' (q+1) cy'/\SyM w' wz.heap.size (.slice Ay' (Es++[(⟨xb,A,cu,u⟩:Ent)]).length cy') (Es++[(⟨xb,A,cu,u⟩:Ent)])/\Below wz.heap.size wz w'):=fun v' w' h1 h2 h3=>by
        obtain⟨Ay',cy',rfl⟩:=Ci.CK h1;refine⟨Ay',cy',rfl,?_,?_⟩
        .have hl:(Es++[(⟨xb,A,cu,u⟩:Ent)]).length=q+1:=by rw[zV,hq];rfl
         rw[hl];have cz:=af.o.below ((zI _ wi).alloc (zB _) (.cells #[.pointer (some ⟨xb,0,none⟩)] 81));rw[hq]at h1 h2 h3 ⊢;refine SyM.add (e:=⟨xb,A,cu,u⟩) al.o ar.o.size bO.o cz.x cz.inInt dS.o (fun b o e=>cz.blk b o e) ?_ h2 (h3.imp id fun e=>⟨_,e,zB _⟩);exact h1
        exact ar.o.trans (bO.o.mono ar.o.size) |>.trans ⟨h2.os,h2.tape,h2.output,h2.size,fun k hk=>h2.block k (zJ hk b8.o) fun e=>by have:=(bs.o.lt k e.symm).1;omega⟩
       have bd:Hid ((Es++[(⟨xb,A,cu,u⟩:Ent)]).map Ent.u=GC s.ps.length (Ag s) (toN F) (t+1)):=by rw[dL.o,zw,bc.o];rfl
       have ef:Hid ((Es++[(⟨xb,A,cu,u⟩:Ent)]).length=q+1):=by rw[zV,hq];rfl
       have cd:Hid (q<=60):=by rw[hq];exact cM
       rw[<-hq];replace hq:=zh hq;replace cM:=zh cM;clear dL ay a1 af b7
       go_wp2_with (at_builtin;refine Ci.wpList_append_new _ rfl _ _ 80 rfl wz.heap.size 81 i1 (.pointer none) 1 8 underlying80 cT.o dc.o dd.o de.o rfl (by decide) (.slice Ay q cy) q (Es.map Ent.pt) rfl bs.o ⟨wi.heap.size,0,none⟩ 1 1 [.pointer (some ⟨xb,0,none⟩)] rfl rfl dz.o (Ci.AM _ rfl) (by decide) (by have:=cd.o;unfold maxLen;omega) (by have:=cd.o;omega) b8.o ?_;intro v' w' ho hg hn;obtain⟨Ay',cy',da,cC,cx⟩:=dQ.o v' w' ho hg hn;replace cC:=zh cC;replace cx:=zh cx;clear ho hg hn x0 x9;subst da)
       exact⟨⟨t+1,Es++[(⟨xb,A,cu,u⟩:Ent)],Ay',cy',aN.o,by go_num,bu.o,by rw[ef.o],bd,cC,ct,cx⟩,by have:=aN.o;simp only[intOf];omega⟩
     obtain rfl:t=(Ar s.ps.length (Ag s)).length:=by omega
     have aP:Hid (Below w.heap.size w wt):=a8.o.trans (ar.o.mono a8.o.size);have aT:Hid (Es.map Ent.u=GX s.ps.length (Ag s) (toN F)):=bc.o.trans SK;obtain⟨R0,ag⟩:∃x,x=(CO s.ps.length (Ag s) (toN F) (Ar s.ps.length (Ag s)).length).flatten.length:=⟨_,rfl⟩;rw[<-ag];have ek:R0<=60:=by have h1:=JH (n:=s.ps.length) (E:=Ag s) (F:=toN F) (t:=(Ar s.ps.length (Ag s)).length);have h2:=Is (F:=toN F) (CW ae.o);rw[Cg]at h2;omega
     by_cases h16:16<R0
     .have m3:decide (16<(R0:Int))=true:=zG (by omega);have bo:=zh (SN (n:=s.ps.length) (E:=Ag s) (F:=toN F) (by rw[<-ag];exact h16));replace h16:=zh h16;replace ag:=zh ag;go_wp2;rw[vE];go_ret2;exact bg.o _ _ bW.o bo.o rfl aP.o
     have m3:decide (16<(R0:Int))=false:=zH (by omega);have dD:=zh (UE (n:=s.ps.length) (E:=Ag s) (F:=toN F) (by rw[<-ag];omega) h8.o);have bw:(GX s.ps.length (Ag s) (toN F)).flatten.length<=16:=by unfold GX;rw[EJ,<-EN,<-ag];omega
     replace bw:=zh bw;have ej:Es.length<=60:=by have h1:=congrArg List.length bc.o;have h2:=LK (n:=s.ps.length) (E:=Ag s) (F:=toN F) (t:=(Ar s.ps.length (Ag s)).length);rw[zW]at h1;omega
     replace h16:=zh h16;replace ag:=zh ag
     go_wp2_with fail
     have aQ:=zh (CW ae.o);have bi:=LL (F:=toN F) (CW ae.o);rw[Cg,<-aT.o]at bi;have dv:=zh bi;clear bi;have ao:(Es.map Ent.u).flatten.length<=16:=by rw[aT.o];exact bw.o
     replace ao:=zh ao;have dx:=aR.o.below ar.o;have cA:F.length=(toN F).length:=by simp[toN]
     have aU:VMC wt vb mb s.ps.length (D7 (A4 s.cap) (toN F) (Es.map Ent.u) 0) (F.length+((Es.map Ent.u).take 0).flatten.length):=by have h:=dx.congr (val':=D7 (A4 s.cap) (toN F) (Es.map Ent.u) 0) (fun p _=>by rw[<-SJ (L:=A4 s.cap) (us:=(Es.map Ent.u)),cA]);simpa using h
     replace aU:=zh aU;clear dx;replace cA:=zh cA;have dy:=zh (d8.o.below ar.o);have du:Hid (Kp (mb::(Es.take 0).map Ent.x) wt wt):=Kp.refl _ _
     go_loopw [123] (fun ix wr=>∃(k:Nat),k<=Es.length/\ix=.int .i64 (k:Int)/\Hid (Kp (mb::(Es.take k).map Ent.x) wt wr)/\Hid (VMC wr vb mb s.ps.length (D7 (A4 s.cap) (toN F) (Es.map Ent.u) k) (F.length+((Es.map Ent.u).take k).flatten.length))) (fun ix _=>Es.length-(intOf ix).toNat)
     case atStart=>exact⟨0,zQ _,rfl,du,aU⟩
     case round=>
      clear du aU;obtain⟨k,hk,rfl,ak,ai⟩:=hrel;obtain⟨aa,rfl⟩:∃z,z=wr:=⟨_,rfl⟩
      by_cases hkl:k<Es.length
      .obtain ⟨e,he⟩:∃e,e=Es[k]:=⟨_,rfl⟩;have aA:e∈Es:=by rw[he];exact zN hkl
       obtain⟨cP,cL,ez⟩:=al.o.ent e aA;have bU:=UF al.o.nd hkl;rw[<-he]at bU;have a7:(Es.map Ent.u)[k]'(by rw[zW];exact hkl)=e.u:=by rw[zz,<-he]
       have bD:=PV bR.o (u:=e.u) (by rw[<-aT.o];exact vC aA);have bC:=h8.o _ bD.2;have br:=N8 dv.o (k:=k) (by rw[zW];exact hkl);rw[a7]at br;obtain⟨D,hD,aK⟩:=PP aQ.o dv.o ao.o k;have ap:=aK.vals hD;have ea:=Fg (us:=(Es.map Ent.u)) (k:=k) (by rw[zW];exact hkl);rw[a7]at ea;have eF:=ao.o;have aG:e.x≠mb/\e.x≠vb:=by have:=db.o;omega
       have bq:e.x∉mb::(Es.take k).map Ent.x:=fun h=>(List.mem_cons.1 h).elim aG.1 bU;have ey:Hid (Below w.heap.size w wt):=aP;have a0:Hid (∀x,x∈mb::(Es.take k).map Ent.x->w4.heap.size<=x):=fun x hx=>(List.mem_cons.1 hx).elim (fun h=>by rw[h];exact wl aW.o.1.symm) (fun h=>by obtain⟨e2,aF,rfl⟩:=List.mem_map.1 h;have h1:=(al.o.ent e2 (yC aF)).2.2;have h2:=am.o.size;omega);have aC:Hid (Below w.heap.size w aa):=ak.o.to_below aP.o (fun x hx=>by have h1:=a0.o x hx;have h2:=bK.o.size;omega);have dT:Hid (Bk aa e.x 84 [.slice e.A e.u.length e.c,.slice none 0 0,.slice none 0 0]):=cP.kp ak.o bq;have eH:w.heap.size<=e.x:=by have h1:=aP.o.size;have h2:=a8.o.size;omega
       have bB:Hid (∀b o,e.A=some ⟨b,o,none⟩->b∉mb::(Es.take k).map Ent.x/\b≠e.x/\b≠mb):=fun b o h=>by
        obtain⟨h1,h2,h3⟩:=al.o.blk e aA b o h;have hb:b≠mb:=by have:=db.o.1;omega
        refine⟨fun hm=>(List.mem_cons.1 hm).elim hb fun h=>?_,h3 e aA,hb⟩;obtain⟨e2,aF,rfl⟩:=List.mem_map.1 h;exact h3 e2 (yC aF) rfl
       have cU:Hid (InInt aa e.A (e.u.map fun(q:Nat)=>(q:Int))):=inInt_kp cL ak.o (fun b o h=>(bB.o b o h).1);have aE:Hid (Bk aa w.heap.size 32 (SC s Ap Ac Av cp cc cv)):=dy.o.kp ak.o (fun h=>(List.mem_cons.1 h).elim (fun h=>by have h1:=aW.o.1;have h2:=bG.o;omega) (fun h=>by obtain⟨e2,aF,q⟩:=List.mem_map.1 h;have h1:=(al.o.ent e2 (yC aF)).2.2;have h2:=bG.o;have h3:=am.o.size;omega));obtain⟨val,aZ⟩:∃v,v=D7 (A4 s.cap) (toN F) (Es.map Ent.u) k:=⟨_,rfl⟩;rw[<-aZ]at ai aK ap;obtain⟨C0,bL⟩:∃c,c=F.length+((Es.map Ent.u).take k).flatten.length:=⟨_,rfl⟩;rw[<-bL]at ai;have et:C0+e.u.length<=100000:=by omega
       have kB:=PJ (D:=D) s Ap Ac Av e.A cp cc cv e.c e.u val e.x vb mb aa ae.o cH bC br.nodup bD.1 ap dT.o (fun W h=>hE.o.below (h.to_below aC.o (fun x hx=>by simp at hx;omega))) (fun W h=>(c8.o W (h.to_below aC.o (fun x hx=>by simp at hx;omega))).cap) (fun W h=>inInt_kp cU.o h (fun b o q=>by have:=(bB.o b o q).2.1;simpa using this)) (fun W h=>(ai.o.kp h (by have:=aG.2;simp;omega) (by have:=aG.1;simp;omega)).vm (by omega));obtain⟨gy,es,eb,eB,eC,_,dF⟩:=Nt.CK (On al.o.row ak.o (fun b q hm=>(List.mem_cons.1 hm).elim (fun h=>by have h1:=(al.o.row.lt b q).1;have h2:=db.o.1;omega) (fun h=>by obtain⟨e2,aF,h3⟩:=List.mem_map.1 h;exact(al.o.rb b q e2 (yC aF)).1 h3.symm))) (by omega:0<Es.length);injection eb with q1 _ q2;subst q1;subst q2;have e1:aa.cell? ⟨gy,k,none⟩=some (.pointer (some ⟨e.x,0,none⟩)):=dF k _ (by rw[xq,zj hkl,<-he];rfl);have j0:(0:Int)<=(k:Int):=by omega
       have j1:(k:Int)<(Es.length:Int):=by omega
       have cW:Hid (((Es.map Ent.u).take k).flatten.length+e.u.length<=16):=by unfold Hid;omega
       have aV:=zh hkl;replace kB:=zh kB;replace aK:=zh aK;replace br:=zh br;replace ap:=zh ap;replace bD:=zh bD;replace he:=zh he;replace a7:=zh a7;replace aZ:=zh aZ;replace bL:=zh bL;replace aA:=zh aA;replace cP:=zh cP;replace cL:=zh cL;replace bU:=zh bU;replace bq:=zh bq;replace aG:=zh aG;replace hD:=zh hD;clear dF;have u0:=aE.o.c0;have u1:=aE.o.c1;have u2:=aE.o.c2;have u9:=aE.o.lt
       go_wp2_with fail
       refine kB.o.q fun W5 ⟨w3,dH,dB⟩=>?_;obtain⟨Aa,Ab,ca,cb,la,dI,ax,ec,cn,bt⟩:=dB.slv aQ.o ap.o bC;have bf:Hid (Kp [e.x] aa W5):=kp_trans dH dI (fun y hy=>.inl hy);replace ax:=zh ax;clear dH dI dB kB u0 u1 u2 u9 e1;have aI:Hid (Below w.heap.size w W5):=bf.o.to_below aC.o (fun x hx=>by simp at hx;omega);have bk:=zh (ai.o.kp bf.o (by have:=aG.o.2;simp;omega) (by have:=aG.o.1;simp;omega));have ds:=zh (inInt_kp cU.o bf.o (fun b o q=>by have:=(bB.o b o q).2.1;simpa using this));have kV:Hid (∀W,Below W5.heap.size W5 W->Calls prog 39 #[.slice Aa e.u.length ca,.slice Ab e.u.length cb] W fun e1 w1=>(∃p c,e1=.returned (.tuple #[.slice p e.u.length c,.int .i64 0])/\InRow w1 p (BP e.u.length fun i=>Cu SQ (A4 s.cap) e.u val (e.u.getD i 0)))/\Below W.heap.size W w1):=fun W h=>U5 aQ.o aK.o br.o cW.o bC (hE.o.below (aI.o.trans (h.mono aI.o.size))) ec (cn.below h) bt;have ba:Hid (Below W5.heap.size W5 W5.drew):=(zI _ _).drew;have cB:Hid (∀W,Below W5.heap.size W5 W->W.cell? ⟨e.x,1,none⟩=some (.slice Aa e.u.length ca)/\W.cell? ⟨e.x,2,none⟩=some (.slice Ab e.u.length cb)):=fun W h=>⟨(ax.o.below h).c1,(ax.o.below h).c2⟩;clear cn bt dT cU ai;have x1:=ax.o.c1;have x2:=ax.o.c2;have x9:=ax.o.lt
       go_wp2_with fail
       go_region_held3 (fun W=>W.cell? ⟨e.x,1,none⟩=some (.slice Aa e.u.length ca)/\W.cell? ⟨e.x,2,none⟩=some (.slice Ab e.u.length cb)) (first|(with_reducible exact cB.o _ ba.o)|(with_reducible exact cB.o _ a4.o)|go_keep) (first|(go_at_call 39;refine(kV.o _ ba.o).mono ?_;rintro ex w8 ⟨⟨pS,cS,rfl,bz⟩,hb⟩;have a4:=ba.t hb;replace bz:=zh bz;clear hb))
       have cD:Hid (VMC w8 vb mb s.ps.length (Iz (A4 s.cap) e.u val 0) (C0+0)):=by rw[SH];exact bk.o.below a4.o
       have d7:Hid (∀b o x,w8.cell? ⟨b,o,none⟩=some x->b≠mb):=fun b o x h=>cD.o.off h;have eh:=zh (ax.o.below a4.o);have dZ:=zh (ds.o.below a4.o);have ei:Hid (Below w.heap.size w w8):=aI.o.trans (a4.o.mono aI.o.size);have d0:Hid (Kp [e.x] aa w8):=bf.o.below a4.o;have er:=zh ax.o.lt;clear bk ds ax cB ba kV bf aI x1 x2 x9;have dt:Hid (Kp [mb] w8 w8):=Kp.refl _ _
       go_wp2_with fail
       go_loopw [145] (fun jx wr=>∃(i:Nat),i<=e.u.length/\jx=.int .i64 (i:Int)/\Hid (Kp [mb] w8 wr)/\Hid (VMC wr vb mb s.ps.length (Iz (A4 s.cap) e.u val i) (C0+i))) (fun jx _=>e.u.length-(intOf jx).toNat)
       case atStart=>exact⟨0,zQ _,rfl,dt,cD⟩
       case round=>
        clear dt cD;obtain⟨i,hi,rfl,au,bn⟩:=hrel;obtain⟨aS,rfl⟩:∃z,z=wr:=⟨_,rfl⟩
        by_cases hil:i<e.u.length
        .obtain⟨sb,so,d5,bZ,dP⟩:=bz.o (by rw[AG];omega);subst d5;obtain⟨t1,t2,t3⟩:=dP i (by rw[AG];exact hil);rw[EG]at t1 t2 t3;rw[Dt hil]at t1 t2 t3;have bx:sb≠mb:=d7.o sb _ _ t1;have t1:=(zT (a:=⟨sb,so+i*3,none⟩) (au.o.block sb bZ (by simpa using bx))).trans t1;have t2:=(zT (a:=⟨sb,so+i*3+1,none⟩) (au.o.block sb bZ (by simpa using bx))).trans t2;have t3:=(zT (a:=⟨sb,so+i*3+2,none⟩) (au.o.block sb bZ (by simpa using bx))).trans t3;have t9:sb<aS.heap.size:=zJ bZ au.o.size;obtain⟨ub,uo,bN,aY,dR⟩:=(inInt_kp dZ.o au.o (fun b o q=>by have:=(bB.o b o q).2.2;simpa using this)) (by rw[zW];omega);have c9:ub≠mb:=(bB.o ub uo bN).2.2;have e1:=dR i (by rw[zW];exact hil);rw[zz]at e1;have bX:=bD.o.1 _ (zN hil);have bp:=SI (L:=A4 s.cap) (val:=val) hil;obtain⟨p,hp⟩:∃p,p=e.u[i]:=⟨_,rfl⟩;rw[<-hp]at e1 bX bp t1 t2 t3;replace hp:=zh hp;clear dR dP;replace bp:=zh bp;replace bN:=zh bN;replace bx:=zh bx;replace c9:=zh c9;replace e1:=zh e1;replace aY:=zh aY;have j0:(0:Int)<=(i:Int):=by omega
         have j1:(i:Int)<(e.u.length:Int):=by omega
         obtain⟨q,hq⟩:∃q,q=Cu SQ (A4 s.cap) e.u val p:=⟨_,rfl⟩;rw[<-hq]at t1 t2 t3 bp;replace hq:=zh hq
         go_wp2_with fail
         have b2:=eh.o.kp au.o (by have:=aG.o.1;simpa using this);rw[bN.o]at b2;refine XI vb mb s.ps.length (C0+i) p e.x ub uo e.u.length e.c i aS.heap.size q (Iz (A4 s.cap) e.u val i) (aS.alloc (.cells #[.bool (rq (q)).1,.string (rq (q)).2.1,.string (rq (q)).2.2] 48)) (bn.o.below ((zI _ _).alloc (zB _) _)) (by omega) (by omega) hil ((b2.alloc _).c0) ((b2.alloc _).lt) ((zT (a:=⟨ub,uo+i,none⟩) (heap_alloc_old aS _ aY.o)).trans e1.o) (Nat.lt_trans aY.o (by simp)) (Bk.new aS _ _) aG.o.1 c9.o (by have:=bn.o.lt;omega) ?_;intro _ _ _ _ _ _ _ _ _ we bm aD;have d1:Hid (Kp [mb] w8 we):=kp_trans (au.o.alloc _) aD.o (fun y hy=>.inl hy);have cE:Hid (VMC we vb mb s.ps.length (Iz (A4 s.cap) e.u val (i+1)) (C0+(i+1))):=bm.o.congr fun x _=>(bp.o x).symm;clear bm aD au bn t1 t2 t3 t9 b2;go_wp2;exact⟨⟨i+1,by omega,by go_num,d1,cE⟩,by simp only[intOf];omega⟩
        obtain rfl:i=e.u.length:=by omega
        have d2:Hid (Kp (mb::(Es.take (k+1)).map Ent.x) wt aS):=by
         have hm:∀y,y∈(Es.take (k+1)).map Ent.x<->y∈(Es.take k).map Ent.x\/y=e.x:=fun y=>by rw[zO aV.o,<-he.o,zw,yQ];simp
         have h1:Kp (mb::(Es.take (k+1)).map Ent.x) wt aa:=⟨ak.o.os,ak.o.tape,ak.o.output,ak.o.size,fun b hb hx=>ak.o.block b hb fun h=>hx ((List.mem_cons.1 h).elim (fun h=>List.mem_cons.2 (.inl h)) (fun h=>List.mem_cons.2 (.inr ((hm b).2 (.inl h)))))⟩;exact kp_trans (kp_trans h1 d0.o (fun y hy=>.inl (List.mem_cons.2 (.inr ((hm y).2 (.inr (by simpa using hy))))))) au.o (fun y hy=>.inl (List.mem_cons.2 (.inl (by simpa using hy))))
        have d6:Hid (VMC aS vb mb s.ps.length (D7 (A4 s.cap) (toN F) (Es.map Ent.u) (k+1)) (F.length+((Es.map Ent.u).take (k+1)).flatten.length)):=by
         have h:=bn.o;rw[UD]at h;have e1:D7 (A4 s.cap) (toN F) (Es.map Ent.u) (k+1)=Cu SQ (A4 s.cap) e.u val:=by rw[N7 (by rw[zW];exact aV.o),a7.o,<-aZ.o]
         have e2:F.length+((Es.map Ent.u).take (k+1)).flatten.length=C0+e.u.length:=by rw[bL.o,zO (by rw[zW];exact aV.o:k<(Es.map Ent.u).length),a7.o,xQ,zV,List.flatten_singleton,Nat.add_assoc]
         rw[e1,e2];exact h
        have dG:Hid (k+1<=Es.length):=aV.o;clear au bn;go_wp2;exact⟨⟨k+1,dG.o,by go_num,d2,d6⟩,by have:=dG.o;simp only[intOf];omega⟩
      obtain rfl:k=Es.length:=by omega
      have ci:((Es.map Ent.u).take Es.length).flatten.length<=16:=by have h:=congrArg (fun l=>(List.flatten l).length) (yo Es.length (Es.map Ent.u));simp only[xQ,zV]at h;have:=ao.o;omega
      have aD:D7 (A4 s.cap) (toN F) (Es.map Ent.u) Es.length=L3 SQ s.ps.length (A4 s.cap) (toN F):=by unfold D7 L3;rw[Cg,<-aT.o,xE (by rw[zW];exact zB _)]
      have aR:=ai.o.vm (by omega);rw[aD]at aR;replace aR:=zh aR;replace aD:=zh aD;replace ci:=zh ci;have a0:Hid (∀x,x∈mb::(Es.take Es.length).map Ent.x->w4.heap.size<=x):=fun x hx=>(List.mem_cons.1 hx).elim (fun h=>by rw[h];exact wl aW.o.1.symm) (fun h=>by obtain⟨e2,aF,rfl⟩:=List.mem_map.1 h;have h1:=(al.o.ent e2 (yC aF)).2.2;have h2:=am.o.size;omega);have aC:Hid (Below w.heap.size w aa):=ak.o.to_below aP.o (fun x hx=>by have h1:=a0.o x hx;have h2:=bK.o.size;omega);have aE:Hid (Bk aa w.heap.size 32 (SC s Ap Ac Av cp cc cv)):=dy.o.kp ak.o (fun h=>by have h1:=a0.o _ h;have h2:=bG.o;omega);obtain⟨ev,cN⟩:∃ev,ev=L3 SQ s.ps.length (A4 s.cap) (toN F):=⟨_,rfl⟩;rw[<-cN]at aR be;replace cN:=zh cN;have ed:=FE 39 underlying39 s.ps.length (by omega);have kva:Hid (∀W (p:Nat),p<s.ps.length->Below aa.heap.size aa W->Calls prog 37 #[.int .i64 (p:Int),.pointer (some ⟨vb,0,none⟩)] W fun e w'=>e=.returned (.agg #[.bool (rq (ev p)).1,.string (rq (ev p)).2.1,.string (rq (ev p)).2.2])/\Below W.heap.size W w'):=fun W p hp h=>J2 s.ps.length ev vb mb p hp (by omega) W (hE.o.below (aC.o.trans (h.mono aC.o.size))) (aR.o.below h);obtain⟨ob,a5⟩:∃x,x=aa.heap.size:=⟨_,rfl⟩;obtain⟨dU,aO⟩:∃W,W=(aa.alloc (.cells (AN s.ps.length fun _=>zraw).toArray 48)):=⟨_,rfl⟩;have b3:Hid (Below aa.heap.size aa dU):=by rw[aO];exact(zI _ aa).alloc (zB _) _
      have b6:Hid (RowB dU ob s.ps.length fun j=>if j<0 then rq (ev j) else zraw):=by rw[aO,a5];refine RowB.congr (r:=fun _=>zraw) (yR aa _) fun j _=>?_;rw[zC (yB _)]
      have u0:=aE.o.c0;have u1:=aE.o.c1;have u2:=aE.o.c2;have u9:=aE.o.lt
      go_wp2_with fail
      (try rw[<-aO])
      (try rw[<-a5])
      replace aO:=zh aO;replace a5:=zh a5;clear ed u0 u1 u2 u9
      go_loopw [167] (fun ix wr=>∃(k:Nat),k<=s.ps.length/\ix=.int .i64 (k:Int)/\Hid (Below aa.heap.size aa wr)/\Hid (RowB wr ob s.ps.length fun j=>if j<k then rq (ev j) else zraw)) (fun ix _=>s.ps.length-(intOf ix).toNat)
      case atStart=>exact⟨0,zQ _,rfl,b3,b6⟩
      case round=>
       clear b3 b6;obtain⟨k,hk,rfl,an,bj⟩:=hrel;obtain⟨dj,rfl⟩:∃z,z=wr:=⟨_,rfl⟩
       by_cases hkm:k<s.ps.length
       .have k0:=zh (kva.o dj k hkm an.o);have q0:(0:Int)<=(k:Int):=by omega
        have q1:(k:Int)<(s.ps.length:Int):=by omega
        go_wp2_with fail
        refine k0.o.q fun w6 hb=>?_;have dl:Hid (Below aa.heap.size aa w6):=an.o.trans (hb.mono an.o.size);have a2:Hid (RowB w6 ob s.ps.length fun j=>if j<k then rq (ev j) else zraw):=bj.o.below hb bj.o.lt;clear hb k0 an bj;obtain⟨r1,r2,r3⟩:=a2.o.cell hkm;have f1:=a2.o.frozen (k*3);have f2:=a2.o.frozen (k*3+1);have f3:=a2.o.frozen (k*3+2);have r9:=a2.o.lt;have bv:Hid (aa.heap.size<=ob):=wl a5.o.symm;have dV:Hid (Below aa.heap.size aa (((w6.setCell ⟨ob,k*3,none⟩ (.bool (rq (ev k)).1)).setCell ⟨ob,k*3+1,none⟩ (.string (rq (ev k)).2.1)).setCell ⟨ob,k*3+2,none⟩ (.string (rq (ev k)).2.2))):=((dl.o.setCell (p:=⟨ob,k*3,none⟩) bv.o _).setCell (p:=⟨ob,k*3+1,none⟩) bv.o _).setCell (p:=⟨ob,k*3+2,none⟩) bv.o _;have d3:Hid (RowB (((w6.setCell ⟨ob,k*3,none⟩ (.bool (rq (ev k)).1)).setCell ⟨ob,k*3+1,none⟩ (.string (rq (ev k)).2.1)).setCell ⟨ob,k*3+2,none⟩ (.string (rq (ev k)).2.2)) ob s.ps.length fun j=>if j<k+1 then rq (ev j) else zraw):=(a2.o.set hkm (rq (ev k))).congr fun j _=>by by_cases c:j=k;(· rw[zD c,zD (by omega),c]);(· rw[zC c];by_cases d:j<k;(· rw[zD d,zD (by omega)]);(· rw[zC d,zC (by omega)]))
        generalize (if k<k then rq (ev k) else zraw)=rz at r1 r2 r3;go_wp2;exact⟨⟨k+1,by omega,by go_num,dV,d3⟩,by simp only[intOf];omega⟩
       obtain rfl:k=s.ps.length:=by omega
       have d4:Hid (RowB dj ob s.ps.length fun j=>rq (ev j)):=bj.o.congr fun j hj=>by rw[zD hj]
       have dX:Hid (Below w.heap.size w dj):=aC.o.trans (an.o.mono aC.o.size);have bv:Hid (w.heap.size<=ob):=by rw[a5.o];exact aC.o.size
       clear bj an;go_wp2;rw[vE];go_ret2;exact be.o _ _ ob bW.o dD.o rfl bv.o d4.o dX.o
end Sh
end
section
namespace Sh
open Nt Ci
def hL1:List Lp:=[(0,3,1/2),(1,0,1/2)]
def hL2:List Lp:=[(0,1,1/2),(0,3,1/2),(1,0,1/2)]
def hL3:List Lp:=[(0,1,1),(1,0,1)]
def hL4:List Lp:=[(0,3,1),(2,0,1/2),(2,1,1/2)]
theorem Oe{e:Nat->Rat}(h:Eff 4 hL1 [3] e):e 0=6/12/\e 1=3/12/\e 2=0/\e 3=1:=by
 have h3:=h.listed 3 (by simp);have h0:=h.sum 0 (by omega) (by simp);have h1:=h.sum 1 (by omega) (by simp);have h2:=h.sum 2 (by omega) (by simp);simp[hL1,AB]at h0 h1 h2;refine⟨?_,?_,?_,h3⟩<;>grind
end Sh
end
section
open Go.RowKit Go.Shelf
namespace Sh
open Nt Ci
noncomputable def ev(s:SR)(F:List Int):Nat->Rat:=L3 SQ s.ps.length (A4 s.cap) (toN F)
theorem UG{s:SR}{F:List Int}(d:Ao s=true)(h:AX s.ps.length (Ag s) (toN F)=false):∃D,Vals (ev s F) D:=by
 rw[<-Cg]at h;obtain⟨D,hD,hi⟩:=L4 (S:=SQ) (F:=toN F) (CW d) Kv (It h).2;exact⟨D,hi.vals hD⟩
theorem We{s:SR}{F:List Int}(d:Ao s=true)(h:AX s.ps.length (Ag s) (toN F)=false):Eff s.ps.length (A4 s.cap) (toN F) (ev s F):=by
 rw[<-Cg]at h;exact Si (CW d) Kv (It h).2
theorem LN{s:SR}(F:List Int)(d:Ao s=true)(hn:s.ps.length<=8):AX s.ps.length (Ag s) (toN F)=false:=by
 rw[<-Cg];exact St (CW d) hn
theorem SP(s:SR)(Ap Ac Av Af:Option Addr)(cp cc cv cf:Nat)(F:List Int)(w:World)(hE:Env w)(hs:StIn w s Ap Ac Av)(hn:s.ps.length<=8)(aa:s.cap.length<=300)(hF:InInt w Af F)(d:F.length<=140737488355328):
 Calls prog 12 #[.agg #[.slice Ap s.ps.length cp,.slice Ac s.cap.length cc,.slice Av s.vot.length cv],.slice Af F.length cf] w fun e w' =>
  (if Ao s=true/\AZ s.ps.length F=true then ∃b,e=.returned (.tuple #[.slice (some ⟨b,0,none⟩) s.ps.length s.ps.length,.int .i64 0])/\w.heap.size<=b/\RowB w' b s.ps.length fun p=>rq (ev s F p)
   else e=.returned (.tuple #[.slice none 0 0,.int .i64 1]))/\Below w.heap.size w w' :=
 (K4 s Ap Ac Av Af cp cc cv cf F w hE hs aa hF d).mono fun e w' h=>⟨by
   by_cases hgd:Ao s=true/\AZ s.ps.length F=true
   .rw[zD hgd];have h1:=h.1;rw[zD hgd,zC (by rw[LN F hgd.1 hn];decide)]at h1;exact h1
   rw[zC hgd];have h1:=h.1;rw[zC hgd]at h1;exact h1,h.2⟩
end Sh
end
section
open Go.RowKit Go.Shelf
namespace Ci
open Nt
def E0(l:List Lk):List Value:=(l.map lkL).flatten
theorem FH(x:Lk):(lkL x).length=5:=rfl
theorem PX(x:Lk)(l:List Lk):E0 (x::l)=lkL x++E0 l:=rfl
theorem JI(l:List Lk)(x:Lk):E0 (l++[x])=E0 l++lkL x:=by
 unfold E0;rw[zw,xQ];simp
theorem SS:∀(l:List Lk)(j f:Nat)(hj:j<l.length),f<5->(E0 l)[j*5+f]? = (lkL l[j])[f]?:=by
 intro l
 induction l with
 |nil=>intro j f hj;exact absurd hj (yB _)
 |cons a l ih=>
  intro j f hj hf;rw[PX]
  cases j with
  |zero=>
   rw[xO (by rw[FH];omega)];simp
  |succ j=>
   rw[List.getElem?_append_right (by rw[FH];omega),FH,show (j+1)*5+f-5=j*5+f by omega,ih j f (by simpa using hj) hf];simp
def STq:Value:=.agg #[.int .i64 0,.int .i64 0,.bool false,.string ⟨#[]⟩,.string ⟨#[]⟩]
theorem Vs:(prog.info? 106).map (fun i=>(i.zero,i.size,i.bytes))=some (some STq,5,56):=by kernel_rfl
section
variable {W W':World} {base n:Nat} {e:TypeId} {u:Value} {l:List Lk}
theorem Oy(h:W.ownsRow base e 5 u l.length (E0 l)):∃A cap,u=.slice A l.length cap/\InLk W A l:=by
 rcases h.2 with⟨rfl,h0⟩|⟨g,cap,cur,rfl,hb,hg,_⟩
 .refine⟨none,0,by rw[h0],fun hl=>by omega⟩
 refine⟨_,cap,rfl,fun hl=>⟨g,0,rfl,(Array.getElem?_eq_some_iff.1 hg).1,fun j hj=>?_⟩⟩;have d:∀o,(⟨g,0,none⟩:Addr).add o=⟨g,o,none⟩:=fun o=>by unfold Addr.add;split<;>simp_all
 have key:∀f v,f<5->(lkL l[j])[f]? = some v->W.cell? ⟨g,j*5+f,none⟩=some v:=fun f v hf hv=>by
  have hc:=h.cells (g:=g) (by simp[Value.ownBlock]) (j*5+f) v (by rw[SS l j f hj hf];exact hv)
  rwa [d]at hc
 simp only[yE];exact⟨key 0 _ (by omega) rfl,key 1 _ (by omega) rfl,key 2 _ (by omega) rfl,key 3 _ (by omega) rfl,key 4 _ (by omega) rfl⟩
theorem PY{m:Nat}{xs:List Value}(h:W.ownsRow base e m u n xs):∃A cap,u=.slice A n cap:=by
 rcases h.2 with⟨rfl,h0⟩|⟨g,cap,cur,rfl,_⟩
 .exact⟨none,0,by rw[h0]⟩
 exact⟨_,cap,rfl⟩
theorem K7(w:World)(x:Lk)(t:TypeId):∀j u,(lkL x)[j]? = some u->(w.alloc (.cells #[.int .i64 x.1,.int .i64 x.2.1,.bool x.2.2.1,.string x.2.2.2.1,.string x.2.2.2.2] t)).cell? (Addr.add ⟨w.heap.size,0,none⟩ j)=some u:=by
 intro j u hj;have d:(⟨w.heap.size,0,none⟩:Addr).add j=⟨w.heap.size,j,none⟩:=by unfold Addr.add;split<;>simp_all
 rw[d];simp only[World.cell?,yR];simp only[lkL]at hj
 match j,hj with
 |0,hj=>simpa using hj
 |1,hj=>simpa using hj
 |2,hj=>simpa using hj
 |3,hj=>simpa using hj
 |4,hj=>simpa using hj
 |j+5,hj=>simp at hj
theorem NA(x:Lk):∀u∈lkL x,u.oneCell'=true:=by
 intro u hu;simp only[lkL,yW,yK,xy]at hu
 rcases hu with rfl|rfl|rfl|rfl|rfl<;>rfl
end
end Ci
end
section
open Go.RowKit Go.Shelf
namespace Ci
structure Gv(W:World)(B R n:Nat)(v:Nat->Value)(rw_:Nat->List Lk):Prop where
 lt:R<W.heap.size
 hd:∀i,i<n->W.cell? ⟨R,i,none⟩=some (v i)
 fr:∀i,W.frozen? ⟨R,i,none⟩=false
 rows:∀i,i<n->W.ownsRow B 106 5 (v i) (rw_ i).length (E0 (rw_ i))
 apart:∀i j,i<n->j<n->i≠j->Pj (v i) (v j)
 ne:∀i,i<n->(v i).ownBlock≠some R
 lowR:B<=R
section
variable {W W':World} {B R n i:Nat} {v:Nat->Value} {rw_:Nat->List Lk}
theorem Gv.below(h:Gv W B R n v rw_)(hb:Below W.heap.size W W'):Gv W' B R n v rw_ :=
 ⟨zJ h.lt hb.size,fun i hi=>(hb.cell (p:=⟨R,i,none⟩) h.lt).trans (h.hd i hi),fun i=>(hb.frozen (p:=⟨R,i,none⟩) h.lt).trans (h.fr i),fun i hi=>AC (h.rows i hi) hb,h.apart,h.ne,h.lowR⟩
theorem Gv.alloc(h:Gv W B R n v rw_)(o:Obj):Gv (W.alloc o) B R n v rw_:=h.below ((zI _ W).alloc (zB _) o)
theorem Gv.drew(h:Gv W B R n v rw_):Gv W.drew B R n v rw_:=h.below (zI _ W).drew
theorem Gv.mono{B':Nat}(h:Gv W B R n v rw_)(hb:B'<=B):Gv W B' R n v rw_ :=
 ⟨h.lt,h.hd,h.fr,fun i hi=>by
   obtain⟨h1,h2⟩:=h.rows i hi;refine⟨h1,?_⟩
   rcases h2 with h2|⟨g,cap,cur,hv,hg,hh⟩
   .exact .inl h2
   exact .inr ⟨g,cap,cur,hv,zS hb hg,hh⟩,h.apart,h.ne,zS hb h.lowR⟩
theorem Gv.start(w:World){B:Nat}(hB:B<=w.heap.size)(n:Nat)(t:TypeId):Gv (w.alloc (.cells (madeCells #[.slice none 0 0] n) t)) B w.heap.size n (fun _=>.slice none 0 0) fun _=>[]:=by
 have h:=yR w (.cells (madeCells #[(.slice none 0 0:Value)] n) t);refine⟨by simp,fun x hx=>?_,fun x=>by simp only[World.frozen?,h];simp,fun _ _=>yO _ _ _ _,fun _ _ _ _ _ b hb=>(by cases hb),fun _ _ hb=>(by cases hb),hB⟩;simp only[World.cell?,h];simp[madeCells,hx];rw[vW];rfl
def I3(rw_:Nat->List Lk)(x:Nat)(q:Lk):Nat->List Lk:=fun i=>if i=x then rw_ i++[q] else rw_ i
theorem Gv.step(h:Gv W B R n v rw_){x:Nat}{q:Lk}(hx:x<n){u:Value}(hg:W.grownBy W' (v x).ownBlock)(ho:W'.ownsRow B 106 5 u ((rw_ x).length+1) (E0 (rw_ x)++lkL q))(hn:u.ownBlock=(v x).ownBlock\/u.ownBlock=some W.heap.size):
 Gv (W'.setCell ⟨R,x,none⟩ u) B R n (fun i=>if i=x then u else v i) (I3 rw_ x q):=by
 have af:some R≠(v x).ownBlock:=fun e=>h.ne x hx e.symm;have ab:W'.heap[R]? = W.heap[R]?:=hg.block R h.lt af;have d:∀i,W'.cell? ⟨R,i,none⟩=W.cell? ⟨R,i,none⟩:=fun i=>zT (a:=⟨R,i,none⟩) ab;have ag:∀i,W'.frozen? ⟨R,i,none⟩=W.frozen? ⟨R,i,none⟩:=fun i=>yF (a:=⟨R,i,none⟩) ab
 have ae:u.ownBlock≠some R:=fun e=>by
  rcases hn with hn|hn
  .exact h.ne x hx (by rw[<-hn,e])
  rw[e]at hn;have:=h.lt;simp only[Option.some.injEq]at hn;omega
 have ad:∀a b:Nat,a≠b->(⟨R,a,none⟩:Addr)≠⟨R,b,none⟩:=fun a b e1 e2=>by injection e2 with _ e3;exact e1 e3
 have far:∀{m:Nat} {z:Value} {xs:List Value},W'.ownsRow B 106 5 z m xs->z.ownBlock≠some R->(W'.setCell ⟨R,x,none⟩ u).ownsRow B 106 5 z m xs:=fun h hz=>
  h.kept (row:=some R) ⟨rfl,rfl,rfl,by simp,fun k _ hk=>ze _ _ _ _ (fun e=>hk (by rw[e]))⟩ (.inr hz)
 have aa:∀i,i<n->i≠x->Pj (v i) u:=fun i hi ah b hb e=>by
  rcases hn with hn|hn
  .exact h.apart i x hi hx ah b hb (by rw[<-hn,e])
  have:=((h.rows i hi).lt b hb).2;rw[e]at hn;simp only[Option.some.injEq]at hn;omega
 refine⟨by have:=hg.size;have:=h.lt;simp;omega,fun i hi=>?_,fun i=>by simpa [ag] using h.fr i,fun i hi=>?_,fun i j hi hj e=>?_,fun i hi=>?_,h.lowR⟩
 .by_cases e:i=x
  .subst e;rw[zD rfl];exact yV _ _ _ ((d i).trans (h.hd i hi))
  rw[zC e,yD _ _ _ _ (by first|exact ad _ _ e|exact ad _ _ fun c=>e c.symm),d];exact h.hd i hi
 .by_cases e:i=x
  .subst e;rw[zD rfl];have:I3 rw_ i q i=rw_ i++[q]:=zD rfl;rw[this,zV,JI];exact far ho ae
  rw[zC e];have:I3 rw_ x q i=rw_ i:=zC e;rw[this];refine far ((h.rows i hi).kept hg ?_) (h.ne i hi)
  cases hv:(v i).ownBlock with
  |none=>exact .inl rfl
  |some b=>exact .inr fun c=>h.apart i x hi hx e b hv c.symm
 .by_cases e1:i=x
  .have e2:j≠x:=fun c=>e (by rw[e1,c]);rw[zD e1,zC e2];exact fun b hb hc=>aa j hj e2 b hc hb
  rw[zC e1]
  by_cases e2:j=x
  .rw[zD e2];exact aa i hi e1
  rw[zC e2];exact h.apart i j hi hj e
 by_cases e:i=x
 .rw[zD e];exact ae
 rw[zC e];exact h.ne i hi
theorem Gv.of_block(h:Gv W B R n v rw_)(hs:W.heap.size<=W'.heap.size)(hR:W'.heap[R]? = W.heap[R]?)(hv:∀i b,i<n->(v i).ownBlock=some b->W'.heap[b]? = W.heap[b]?):Gv W' B R n v rw_ :=
 ⟨zJ h.lt hs,fun i hi=>(zT (a:=⟨R,i,none⟩) hR).trans (h.hd i hi),fun i=>(yF (a:=⟨R,i,none⟩) hR).trans (h.fr i),fun i hi=>by
   obtain⟨h1,h2⟩:=h.rows i hi;refine⟨h1,?_⟩
   rcases h2 with h2|⟨g,cap,cur,d,hg,hh,rest⟩
   .exact .inl h2
   exact .inr ⟨g,cap,cur,d,hg,(hv i g hi (by rw[d];rfl)).trans hh,rest⟩,h.apart,h.ne,h.lowR⟩
theorem Gv.kp{xs:List Nat}(h:Gv W B R n v rw_)(hk:Kp xs W W')(hR:R∉xs)(hv:∀i b,i<n->(v i).ownBlock=some b->b∉xs):Gv W' B R n v rw_ :=
 h.of_block hk.size (hk.block R h.lt hR) fun i b hi e=>hk.block b ((h.rows i hi).lt b e).2 (hv i b hi e)
theorem Gv.congr{a':Nat->List Lk}(h:Gv W B R n v rw_)(e:∀i,i<n->rw_ i=a' i):Gv W B R n v a' :=
 ⟨h.lt,h.hd,h.fr,fun i hi=>by rw[<-e i hi];exact h.rows i hi,h.apart,h.ne,h.lowR⟩
end
end Ci
end
section
namespace Co
open Ci
def vs(V:List (Nat×Nat×Nat))(S:Nat->Bool)(p:Nat):Nat:=(V.map fun x=>if x.1=p/\S x.2.1=true then x.2.2 else 0).sum
def maj(V:List (Nat×Nat×Nat))(S:Nat->Bool)(p:Nat):Bool:=decide (3000<vs V S p)
def inR(V:List (Nat×Nat×Nat))(F:List Nat):Nat->Nat->Bool
 |0,p=>decide (p∈F)
 |k+1,p=>inR V F k p||maj V (inR V F k) p
def VIn(n:Nat)(V:List (Nat×Nat×Nat)):Prop:=∀x,x∈V->x.1<n/\x.2.1<n
section
variable {V:List (Nat×Nat×Nat)} {F F':List Nat} {S T:Nat->Bool} {n p q k j:Nat}
theorem K8:∀{V:List (Nat×Nat×Nat)},(∀x,x∈V->S x.2.1=true->T x.2.1=true)->vs V S p<=vs V T p:=by
 intro V
 induction V with
 |nil=>intro _;exact zB _
 |cons a V ih=>
  intro h;have h1:=ih fun x hx=>h x (zY _ hx);have h2:=h a (zf ..);unfold vs at h1 ⊢;simp only[yy,List.sum_cons]
  have h3:(if a.1=p/\S a.2.1=true then a.2.2 else 0)<=if a.1=p/\T a.2.1=true then a.2.2 else 0:=by
   split
   .rename_i hc;rw[zD ⟨hc.1,h2 hc.2⟩];exact zB _
   exact zQ _
  omega
theorem SU(h:∀x,x∈V->S x.2.1=T x.2.1):vs V S p=vs V T p :=
 Nat.le_antisymm (K8 fun x hx=>by rw[h x hx];exact id) (K8 fun x hx=>by rw[h x hx];exact id)
theorem SV(h:∀x,x∈V->S x.2.1=true->T x.2.1=true)(hm:maj V S p=true):maj V T p=true:=by
 have h1:=zL hm;have h2:=K8 (p:=p) h;exact zG (by omega)
theorem PZ(h:∀x,x∈V->S x.2.1=T x.2.1):maj V S p=maj V T p:=by unfold maj;rw[SU h]
theorem DT:inR V F (k+1) p=(inR V F k p||maj V (inR V F k) p):=rfl
theorem NB(h:inR V F j p=true)(d:j<=k):inR V F k p=true:=by
 induction d with
 |refl=>exact h
 |step _ ih=>rw[DT,ih];rfl
def Wf(V:List (Nat×Nat×Nat))(F:List Nat)(p:Nat)(r:Int):Prop :=
 (r=-1/\∀k,inR V F k p=false)\/∃k:Nat,r=(k:Int)/\inR V F k p=true/\∀j,j<k->inR V F j p=false
theorem Oz(V:List (Nat×Nat×Nat))(F:List Nat)(p:Nat):∃r,Wf V F p r:=by
 by_cases h:∃k,inR V F k p=true
 .obtain⟨k,hk⟩:=h;obtain⟨j,_,h1,h2⟩:=Hr (P:=fun k=>inR V F k p=true) k hk;exact⟨j,.inr ⟨j,rfl,h1,fun i hi=>by simpa using h2 i hi⟩⟩
 exact ⟨-1,.inl ⟨rfl,fun k=>by
  cases hc:inR V F k p
  .rfl
  exact absurd ⟨k,hc⟩ h⟩⟩
noncomputable def rd(V:List (Nat×Nat×Nat))(F:List Nat)(p:Nat):Int:=Classical.choose (Oz V F p)
theorem SWq:Wf V F p (rd V F p):=wU (Oz V F p)
theorem Vt:-1<=rd V F p:=by
 rcases SWq (V:=V) (F:=F) (p:=p) with⟨h,_⟩|⟨k,h,_⟩<;>omega
theorem BZ:inR V F k p=true<->0<=rd V F p/\rd V F p<=k:=by
 rcases SWq (V:=V) (F:=F) (p:=p) with⟨h,h2⟩|⟨j,h,h2,h3⟩
 .rw[h2 k];exact⟨fun h=>(by cases h),fun h3=>by omega⟩
 constructor
 .intro hk;refine⟨by omega,?_⟩;have:¬k<j:=fun c=>by rw[h3 k c]at hk;cases hk
  omega
 intro hk;exact NB h2 (by omega)
theorem Wg:rd V F p<0<->∀k,inR V F k p=false:=by
 constructor
 .intro h k
  cases hc:inR V F k p
  .rfl
  have:=(BZ.1 hc).1;omega
 intro h
 rcases SWq (V:=V) (F:=F) (p:=p) with⟨h1,_⟩|⟨j,_,h2,_⟩
 .omega
 rw[h j]at h2;cases h2
theorem UH:rd V F p=0<->p∈F:=by
 constructor
 .intro h;have:inR V F 0 p=true:=BZ.2 (by omega);exact zL this
 intro h;have:inR V F 0 p=true:=zG h;have:=BZ.1 this;omega
theorem SX{a:Int}(h:Wf V F p a):rd V F p=a:=by
 rcases h with⟨rfl,h⟩|⟨k,rfl,h,hm⟩
 .have h1:=Wg.2 h;have h2:=Vt (V:=V) (F:=F) (p:=p);omega
 have h1:=BZ.1 h;obtain⟨j,hj⟩:∃j:Nat,rd V F p=j:=⟨(rd V F p).toNat,by omega⟩
 have h2:¬j<k:=fun c=>by
  have h3:=hm j c;rw[BZ.2 (by omega)]at h3
  cases h3
 omega
theorem UI(h:rd V F p=((k+1:Nat):Int)):maj V (inR V F k) p=true:=by
 have h1:inR V F (k+1) p=true:=BZ.2 (by omega);rw[DT,Bool.or_eq_true]at h1
 rcases h1 with h1|h1
 .have:=(BZ.1 h1).2;omega
 exact h1
theorem SY(hV:VIn n V)(h:∀p,p<n->inR V F (k+1) p=true->inR V F k p=true):∀m,k<=m->∀p,p<n->inR V F m p=inR V F k p:=by
 intro m hm
 induction hm with
 |refl=>exact fun _ _=>rfl
 |step hm ih=>
  intro p hp;rw[DT,ih p hp,PZ (T:=inR V F k) fun x hx=>ih _ (hV x hx).2,<-DT]
  cases hc:inR V F k p
  .cases hd:inR V F (k+1) p
   .rfl
   rw[h p hp hd]at hc;cases hc
  exact NB hc (by omega)
theorem O0(hV:VIn n V)(h:∀p,p<n->inR V F (k+1) p=true->inR V F k p=true)(hp:p<n):rd V F p<=k:=by
 by_cases h0:0<=rd V F p
 .obtain⟨j,hj⟩:∃j:Nat,rd V F p=j:=⟨(rd V F p).toNat,by omega⟩
  by_cases c:j<=k
  .omega
  have h1:inR V F j p=true:=BZ.2 (by omega);rw[SY hV h j (by omega) p hp]at h1;exact(BZ.1 h1).2
 omega
theorem SZ(hV:VIn n V)(hp:p<n):∀(k:Nat),(k:Int)<rd V F p->∃q,q<n/\rd V F q=((k+1:Nat):Int):=by
 intro k hk;apply ww;intro d
 have:=O0 (k:=k) hV (F:=F) (fun q hq h=>by
  have h1:=BZ.1 h
  by_cases c:rd V F q=((k+1:Nat):Int)
  .exact absurd ⟨q,hq,c⟩ d
  exact BZ.2 (by omega)) hp
 omega
theorem Xk(hV:VIn n V)(hp:p<n):rd V F p<=n:=by
 by_cases h0:0<=rd V F p
 .obtain ⟨k,hk⟩:∃k:Nat,rd V F p=k:=⟨(rd V F p).toNat,by omega⟩
  have key:∀j:Nat,j<=k->∃l:List Nat,l.length=j/\l.Nodup/\(∀x,x∈l->x<n/\1<=rd V F x/\rd V F x<=j):=by
   intro j
   induction j with
   |zero=>exact fun _=>⟨[],rfl,vP,fun x hx=>by cases hx⟩
   |succ j ih=>
    intro hj;obtain⟨l,h1,h2,h3⟩:=ih (by omega);obtain⟨q,hq,hr⟩:=SZ hV hp (F:=F) j (by omega);refine⟨q::l,by simp[h1],List.nodup_cons.2 ⟨fun hm=>?_,h2⟩,fun x hx=>?_⟩
    .have:=(h3 q hm).2.2;omega
    rcases List.mem_cons.1 hx with rfl|hx
    .exact⟨hq,by omega,by omega⟩
    have:=h3 x hx;omega
  obtain⟨l,h1,h2,h3⟩:=key k (zB _);have:=Cv n l h2 fun x hx=>(h3 x hx).1;omega
 omega
theorem Qa(hV:VIn n V)(hF:∀f,f∈F->S f=true)(hc:∀p,p<n->S p=false->maj V S p=false):∀k p,p<n->inR V F k p=true->S p=true:=by
 intro k
 induction k with
 |zero=>exact fun p _ h=>hF p (zL h)
 |succ k ih=>
  intro p hp h;rw[DT,Bool.or_eq_true]at h
  rcases h with h|h
  .exact ih p hp h
  cases hs:S p
  .have h1:=SV (T:=S) (fun x hx hh=>ih _ (hV x hx).2 hh) h;rw[hc p hp hs]at h1
   cases h1
  rfl
end
end Co
end
section
open Go.RowKit Go.Shelf
namespace Co
open Nt Ci
def uq(u:Nat):Rat:=mkRat (u:Int) 6000
theorem Wh(a b:Nat):uq a+uq b=uq (a+b):=by
 unfold uq;rw[Rat.mkRat_add_mkRat _ _ (by decide) (by decide)]
 have h:((a:Int)*((6000:Nat):Int)+(b:Int)*((6000:Nat):Int))=((a+b:Nat):Int)*((6000:Nat):Int):=by
  rw[yr,Int.add_mul]
 rw[h,Rat.mkRat_mul_right (by decide)]
theorem Vu(u:Nat):uq u=(u:Rat)/6000:=by
 unfold uq;rw[Rat.mkRat_eq_div];rfl
theorem O1{a b:Nat}:uq a<uq b<->a<b:=by
 have h:(a:Rat)<(b:Rat)<->a<b:=Rat.natCast_lt_natCast;rw[Vu,Vu,<-h];grind
theorem Ta{a b:Nat}:uq a=uq b<->a=b:=by
 constructor
 .intro h
  have h1:¬a<b:=fun c=>by
   have:=O1.2 c;rw[h]at this;exact Rat.lt_irrefl this
  have h2:¬b<a:=fun c=>by
   have:=O1.2 c;rw[h]at this;exact Rat.lt_irrefl this
  omega
 intro h;rw[h]
theorem Tb(u:Nat):decide (0<Ki (uq u) (uq 3000))=decide (3000<u):=by
 unfold Ki;rw[xX,yU,yU]
 by_cases h1:u<3000
 .rw[zD (O1.2 h1)];omega
 rw[zC fun c=>h1 (O1.1 c)]
 by_cases h2:u=3000
 .rw[zD (Ta.2 h2)];omega
 rw[zC fun c=>h2 (Ta.1 c)];omega
theorem Gi{a:Nat}(h:a<9223372036854775807):a<L1:=by
 have:=E9 (n:=(a:Int)) (by omega) (by omega)
 simpa using this
theorem EO{u:Nat}(h:u<9223372036854775807):ShortQ (uq u):=by
 have h1:=Mu false u 6000 (by decide);have h2:=Mv false u 6000 (by decide);have e:mkRat (sg false u) 6000=uq u:=rfl;rw[e]at h1 h2;refine⟨?_,?_⟩
 .rw[h1,BJ];exact Gi (yA (wR _ _) h)
 rw[h2];exact Gi (yA (wR _ _) (by decide))
theorem Wi{g:Bool}{n d:ByteArray}(h:unitsN (g,n,d)≠0):(.agg #[.bool g,.string n,.string d]:Value)=qv (uq (unitsN (g,n,d))):=by
 have hu:unitsN (g,n,d)=val n*(6000/val d)/\A5 g n d=true/\g=false/\6000%val d=0:=by
  unfold unitsN at h ⊢
  by_cases c1:A5 g n d=false\/g=true\/4<n.size\/4<d.size
  .rw[zD c1]at h;exact absurd rfl h
  rw[zC c1]at h ⊢
  by_cases c2:val d<val n\/6000%val d≠0
  .rw[zD c2]at h;exact absurd rfl h
  rw[zC c2];refine⟨rfl,?_,?_,by omega⟩
  .cases hv:A5 g n d
   .exact absurd (.inl hv) c1
   rfl
  cases hg:g
  .rfl
  exact absurd (.inr (.inl hg)) c1
 obtain⟨h1,h2,h3,h4⟩:=hu;obtain⟨q,hq,e1,e2,e3⟩:=H4 h2;have v1:val n=q.num.natAbs:=by rw[e2];exact Bl _
 have v2:val d=q.den:=by rw[e3];exact Bl _
 have hz:¬q.num<0:=by
  rw[h3]at e1;exact zu e1.symm
 have hd:q.den≠0:=q.den_nz;obtain⟨k,hk⟩:=Nat.dvd_of_mod_eq_zero h4;rw[v2]at hk;have ab:6000/q.den=k:=by rw[hk];exact Nat.mul_div_cancel_left _ (by omega)
 have e:uq (unitsN (g,n,d))=q:=by
  unfold uq;rw[h1,v1,v2,ab,hk];have aa:k≠0:=fun c=>by rw[c]at hk;omega
  rw[xM,Rat.mkRat_mul_right aa];have:((q.num.natAbs:Nat):Int)=q.num:=by omega
  rw[this,Rat.mkRat_self]
 rw[e];unfold qv;rw[<-e1,<-e2,<-e3]
def vt(x:Lk):Nat×Nat×Nat:=(x.1.toNat,x.2.1.toNat,unitsN (lkP x))
def VT(s:SR):List (Nat×Nat×Nat):=s.vot.map vt
def row(l:List Lk)(p:Nat):List Lk:=l.filter fun x=>decide (x.1=(p:Int))
def Cs(S:Nat->Bool)(l:List Lk):Nat:=(l.map fun x=>if S x.2.1.toNat=true then unitsN (lkP x) else 0).sum
theorem Qb(S:Nat->Bool)(x:Lk)(l:List Lk):Cs S (x::l)=(if S x.2.1.toNat=true then unitsN (lkP x) else 0)+Cs S l:=by simp[Cs]
theorem Qc(S:Nat->Bool){l:List Lk}{i:Nat}(h:i<l.length):Cs S (l.take (i+1))=Cs S (l.take i)+if S l[i].2.1.toNat=true then unitsN (lkP l[i]) else 0:=by
 unfold Cs;rw[zO h,zw,List.sum_append];simp
theorem UJ(S:Nat->Bool):∀(l:List Lk),Cs S l<=6000*l.length:=by
 intro l
 induction l with
 |nil=>simp[Cs]
 |cons a l ih=>
  rw[Qb,zZ];have:=H6 (lkP a)
  split<;>omega
theorem Wj{s:SR}(h:∀x,x∈s.vot->0<=x.1)(S:Nat->Bool)(p:Nat):vs (VT s) S p=Cs S (row s.vot p):=by
 unfold vs VT Cs row;generalize s.vot=l at h
 induction l with
 |nil=>rfl
 |cons a l ih=>
  have ih':=ih fun x hx=>h x (zY _ hx);have h0:=h a (zf ..);rw[yy,yy,List.sum_cons,ih',zk]
  by_cases c:a.1=(p:Int)
  .have c2:(vt a).1=p:=by show a.1.toNat=p;omega
   rw[zD (zG c),yy,List.sum_cons]
   congr 1
   by_cases c3:S a.2.1.toNat=true
   .rw[zD ⟨c2,c3⟩,zD c3];rfl
   rw[zC fun c4=>c3 c4.2,zC c3]
  have c2:¬(vt a).1=p:=fun c2=>c (by have:a.1.toNat=p:=c2;omega);rw[zC (c:=decide (a.1=(p:Int))=true) (by simpa using c),zC fun c4=>c2 c4.1,yE]
theorem UK{s:SR}(h:∀x,x∈s.vot->0<=x.1)(S:Nat->Bool)(p:Nat):maj (VT s) S p=decide (3000<Cs S (row s.vot p)):=by unfold maj;rw[Wj h]
theorem K9{s:SR}(h:Ao s=true):s.ps.length<=60:=by
 unfold Ao at h;simp only[zq,yG]at h;exact h.2.1
structure SeIn(w:World)(xb R b B n:Nat)(v:Nat->Value)(rows:Nat->List Lk)(o:Nat->Int):Prop where
 x:Bk w xb 93 [.slice (some ⟨R,0,none⟩) n n,.slice (some ⟨b,0,none⟩) n n]
 g:Gv w B R n v rows
 r:RoI w b n o
 nx:xb≠b
 nxR:xb≠R
 nR:R≠b
 nv:∀i,i<n->(v i).ownBlock≠some b
 lb:B<=b
section
variable {w w':World} {xb R b B n:Nat} {v:Nat->Value} {rows:Nat->List Lk} {o:Nat->Int}
theorem SeIn.below(h:SeIn w xb R b B n v rows o)(hb:Below w.heap.size w w'):SeIn w' xb R b B n v rows o :=
 ⟨h.x.below hb,h.g.below hb,h.r.below hb,h.nx,h.nxR,h.nR,h.nv,h.lb⟩
theorem SeIn.set(h:SeIn w xb R b B n v rows o){p:Nat}(hp:p<n)(k:Int):SeIn (w.setCell ⟨b,p,none⟩ (.int .i64 k)) xb R b B n v rows (Ea o p k):=by
 have hg:w.grownBy (w.setCell ⟨b,p,none⟩ (.int .i64 k)) (some b):=Au w ⟨b,p,none⟩ _;refine⟨h.x.far h.nx _,?_,h.r.set hp k,h.nx,h.nxR,h.nR,h.nv,h.lb⟩;exact h.g.of_block (by simp) (ze _ _ _ _ h.nR) fun i b' hi e=>ze _ _ _ _ fun c=>h.nv i hi (by rw[e,c])
theorem SeIn.congr{o':Nat->Int}(h:SeIn w xb R b B n v rows o)(e:∀x,x<n->o x=o' x):SeIn w xb R b B n v rows o':=⟨h.x,h.g,h.r.congr e,h.nx,h.nxR,h.nR,h.nv,h.lb⟩
end
theorem found_any(xb R b B n p:Nat)(v:Nat->Value)(rows:Nat->List Lk)(o:Nat->Int)(w:World)(hx:SeIn w xb R b B n v rows o)(hp:p<n)(_hn:n<=1000):
 Calls prog 88 #[.pointer (some ⟨xb,0,none⟩),.int .i64 (p:Int)] w fun e w'=>e=.returned (.bool (decide (0<=o p)))/\w'=w:=by
 have u0:=hx.x.c1;have u9:=hx.x.lt;have e1:=hx.r.cell p hp;have e9:=hx.r.lt;have j0:(0:Int)<=(p:Int):=by omega
 have j1:(p:Int)<(n:Int):=by omega
 generalize o p=d at e1;go_enter func88,ntmps88;go_wp2;go_ret;exact⟨rfl,rfl⟩
end Co
end
section
open Go.RowKit Go.Shelf
namespace Co
open Nt Ci
def Xl(k:Nat):Code->Bool
 |.region a _ _=>a==k
 |_=>false
noncomputable def bgR(j:Nat):Code:=((Tryz.f40.body.map Ci.Bo).bind fun l=>l.find? (Xl j)).getD .skip
theorem XJ{c0 c1 c2 c3 c4 c5 c6 c7 c8 aJ aK aL aM aN aO aP aQ aR aS aT aU aV aW aX aY aZ a0 a1 a2 a3 a4 a5 a6 a7 a8 a9 ba bb bc bd be bf bg bh bi bj bk bm bn bo bp bq br bs bt bC bD bE bF bG bH bI bJ bK bL bM bN bO bP bQ bR bS bT:Value}{Q:Exit->Act->World->Prop}(xb R b lb B B0 n co:Nat)(ho:Int)(gg:Bool)(nn dd:ByteArray)(v:Nat->Value)(rows:Nat->List Lk)(o:Nat->Int)(w wz:World)(_hn:n<=1000)(ao:co<n)(bU:(rows co).length<=1000)(hx:SeIn w xb R b B n v rows o)(aj:Bk w lb 106 [.int .i64 (co:Int),.int .i64 ho,.bool gg,.string nn,.string dd])(au:xb≠R)(af:lb≠R)(av:∀i,i<n->(v i).ownBlock≠some xb)(bv:∀i,i<n->(v i).ownBlock≠some lb)(an:B0<=B)(az:Below B0 wz w)
 (h:∀(u42 u43 u44 u45 u46 u47 u48 u49 u50 u51 u52 u53 u54 u55 u56 u57 u58 u59:Value)(W:World)(_:Hid (∃v',SeIn W xb R b B n v' (I3 rows co ((co:Int),ho,gg,nn,dd)) o/\∀i,i<n->(v' i).ownBlock≠some xb))(_:Hid (Below B0 wz W)),Q .normal ⟨#[c0,c1,c2,c3,c4,c5,c6,c7,c8,.pointer (some ⟨xb,0,none⟩),aJ,.pointer (some ⟨lb,0,none⟩),aK,aL,aM,aN,aO,aP,aQ,aR,aS,aT,aU,aV,aW,aX,aY,aZ,a0,a1,a2,a3,a4,a5,a6,a7,a8,a9,ba,bb,bc,bd,u42,u43,u44,u45,u46,u47,u48,u49,u50,u51,u52,u53,u54,u55,u56,u57,u58,u59,be,bf,bg,bh,bi,bj,bk,bm,bn,bo,bp,bq,br,bs,bt],[]⟩ (W)):
 Code.wp prog (bgR 11) Q ⟨#[c0,c1,c2,c3,c4,c5,c6,c7,c8,.pointer (some ⟨xb,0,none⟩),aJ,.pointer (some ⟨lb,0,none⟩),aK,aL,aM,aN,aO,aP,aQ,aR,aS,aT,aU,aV,aW,aX,aY,aZ,a0,a1,a2,a3,a4,a5,a6,a7,a8,a9,ba,bb,bc,bd,bC,bD,bE,bF,bG,bH,bI,bJ,bK,bL,bM,bN,bO,bP,bQ,bR,bS,bT,be,bf,bg,bh,bi,bj,bk,bm,bn,bo,bp,bq,br,bs,bt],[]⟩ w:=by
 conv=>arg 2;whnf
 conv=>arg 4;zeta
 replace h:=zh h;have aw:=hx.g.hd co ao;have ap:=zh (hx.g.rows co ao);have ag:=hx.g.lt;obtain⟨vh,ah⟩:∃z,z=v co:=⟨_,rfl⟩;rw[<-ah]at aw ap;have aB:Hid (vh.ownBlock≠some xb):=by rw[ah];exact av co ao
 have bx:Hid (vh.ownBlock≠some lb):=by rw[ah];exact bv co ao
 have bw:Hid (vh.ownBlock≠some R):=by rw[ah];exact hx.g.ne co ao
 have ar:Hid (vh.ownBlock≠some b):=by rw[ah];exact hx.nv co ao
 replace ah:=zh ah
 have HO:Hid (∀W,Below w.heap.size w W->W.cell? ⟨xb,0,none⟩=some (.slice (some ⟨R,0,none⟩) n n)/\W.cell? ⟨lb,0,none⟩=some (.int .i64 (co:Int))/\W.cell? ⟨lb,1,none⟩=some (.int .i64 ho)/\W.cell? ⟨lb,2,none⟩=some (.bool gg)/\W.cell? ⟨lb,3,none⟩=some (.string nn)/\W.cell? ⟨lb,4,none⟩=some (.string dd)):=fun W h=>
  ⟨(hx.x.below h).c0,(aj.below h).c0,(aj.below h).c1,(aj.below h).c2,(aj.below h).c3,(aj.below h).c4⟩
 obtain⟨i0,aA,bB⟩:=Option.map_eq_some_iff.1 Vs;simp only[Prod.mk.injEq]at bB;obtain⟨ay,aC,aD⟩:=bB;obtain⟨zl,aI⟩:∃z,z=STq:=⟨_,rfl⟩;have bA:Hid (zl.cells.size=5):=by rw[aI];rfl
 rw[<-aI]at ay;clear aI;replace aA:=zh aA;replace ay:=zh ay;replace aC:=zh aC;replace aD:=zh aD;have ai:B<=w.heap.size:=zS hx.g.lowR (xW ag);replace hx:=zh hx;replace aj:=zh aj;replace au:=zh au;replace af:=zh af;replace az:=zh az;have q0:(0:Int)<=(co:Int):=by omega
 have q1:(co:Int)<(n:Int):=by omega
 replace av:=zh av;clear bv;refine yx ?_;refine yq (S:=fun W=>W.cell? ⟨xb,0,none⟩=some (.slice (some ⟨R,0,none⟩) n n)/\W.cell? ⟨lb,0,none⟩=some (.int .i64 (co:Int))/\W.cell? ⟨lb,1,none⟩=some (.int .i64 ho)/\W.cell? ⟨lb,2,none⟩=some (.bool gg)/\W.cell? ⟨lb,3,none⟩=some (.string nn)/\W.cell? ⟨lb,4,none⟩=some (.string dd)) (by kernel_rfl) (HO.o _ (zI _ _).drew) (fun ae=>?_);replace ae:=zh ae;refine tkgJ (v:=?_) 0 rfl (ae.o) (Or.inl ⟨by rfl,?_⟩) ?_;rotate_left
 . (intro w aa;obtain⟨q1,q2,q3,q4,q5,q6⟩:=aa;go_simp<;>with_reducible rfl)
 try simp only[Act.put,zA]
 refine tkgJ (v:=?_) 1 rfl (ae.o) (Or.inl ⟨by rfl,?_⟩) ?_;rotate_left
 . (intro w aa;obtain⟨q1,q2,q3,q4,q5,q6⟩:=aa;go_simp<;>with_reducible rfl)
 try simp only[Act.put]
 refine tkgJ (v:=?_) 2 rfl (ae.o) (Or.inl ⟨by rfl,?_⟩) ?_;rotate_left
 . (intro w aa;obtain⟨q1,q2,q3,q4,q5,q6⟩:=aa;go_simp<;>with_reducible rfl)
 try simp only[Act.put]
 refine tkgJ (v:=?_) 3 rfl (ae.o) (Or.inl ⟨by rfl,?_⟩) ?_;rotate_left
 . (intro w aa;obtain⟨q1,q2,q3,q4,q5,q6⟩:=aa;go_simp<;>with_reducible rfl)
 try simp only[Act.put]
 refine tkgJ (v:=?_) 4 rfl (ae.o) (Or.inl ⟨by rfl,?_⟩) ?_;rotate_left
 . (intro w aa;obtain⟨q1,q2,q3,q4,q5,q6⟩:=aa;go_simp<;>with_reducible rfl)
 try simp only[Act.put]
 refine tkgJ (v:=?_) 5 rfl (ae.o) (Or.inl ⟨by rfl,?_⟩) ?_;rotate_left
 . (intro w aa;obtain⟨q1,q2,q3,q4,q5,q6⟩:=aa;go_simp<;>with_reducible rfl)
 try simp only[Act.put]
 refine tkgJ (v:=?_) 6 rfl (ae.o) (Or.inl ⟨by rfl,?_⟩) ?_;rotate_left
 . (intro w aa;obtain⟨q1,q2,q3,q4,q5,q6⟩:=aa;go_simp<;>with_reducible rfl)
 try simp only[Act.put]
 refine tkgJ (v:=?_) 7 rfl (ae.o) (Or.inl ⟨by rfl,?_⟩) ?_;rotate_left
 . (intro w aa;obtain⟨q1,q2,q3,q4,q5,q6⟩:=aa;go_simp<;>with_reducible rfl)
 try simp only[Act.put]
 refine tkgJ (v:=?_) 8 rfl (ae.o) (Or.inl ⟨by rfl,?_⟩) ?_;rotate_left
 . (intro w aa;obtain⟨q1,q2,q3,q4,q5,q6⟩:=aa;go_simp<;>with_reducible rfl)
 try simp only[Act.put]
 refine tkgJ (v:=?_) 9 rfl (ae.o) (Or.inl ⟨by rfl,?_⟩) ?_;rotate_left
 . (intro w aa;obtain⟨q1,q2,q3,q4,q5,q6⟩:=aa;go_simp<;>with_reducible rfl)
 try simp only[Act.put]
 refine tkgJ (v:=?_) 10 rfl (ae.o) (Or.inl ⟨by rfl,?_⟩) ?_;rotate_left
 . (intro w aa;obtain⟨q1,q2,q3,q4,q5,q6⟩:=aa;go_simp<;>with_reducible rfl)
 try simp only[Act.put]
 refine tkgJ (v:=?_) 11 rfl (ae.o) (Or.inl ⟨by rfl,?_⟩) ?_;rotate_left
 . (intro w aa;obtain⟨q1,q2,q3,q4,q5,q6⟩:=aa;go_simp<;>with_reducible rfl)
 try simp only[Act.put]
 refine tkgJ (v:=?_) 12 rfl (ae.o) (Or.inl ⟨by rfl,?_⟩) ?_;rotate_left
 . (intro w aa;obtain⟨q1,q2,q3,q4,q5,q6⟩:=aa;go_simp<;>with_reducible rfl)
 try simp only[Act.put]
 refine tkgJ (v:=?_) 14 rfl (ae.o) (Or.inl ⟨by rfl,?_⟩) ?_;rotate_left
 . (intro w aa;obtain⟨q1,q2,q3,q4,q5,q6⟩:=aa;go_simp<;>with_reducible rfl)
 try simp only[Act.put]
 have bu:Hid (Below w.heap.size w w.drew):=(zI _ w).drew;have d:Hid (Below w.heap.size w (w.alloc (.cells #[.int .i64 (co:Int),.int .i64 ho,.bool gg,.string nn,.string dd] 106)).drew):=((zI _ w).alloc (zB _) _).drew;refine zU (rs:=[13,15]) (by kernel_rfl) (by simp) ?_;refine zK (o:=_) rfl (fun K hK=>?_) ?_
 .have hh:=(bu.o.cell (p:=⟨R,co,none⟩) ag).trans aw;go_simp;clear hh;refine hK.o _ _ (HO.o _ bu.o) (fun _=>?_);clear hK K
  try simp only[Act.put,zA,zF,zE]
  refine zU (rs:=[15]) (by kernel_rfl) (by simp) ?_;refine zK (o:=_) rfl (fun K hK=>?_) ?_
  .go_simp;refine hK.o _ _ (HO.o _ d.o) (fun _=>?_);clear hK K
   try simp only[Act.put,zA,zF,zE]
   refine zU (rs:=[16]) (by kernel_rfl) (by simp) ?_;refine zK (o:=_) rfl (fun K hK=>?_) ?_
   .rw [zD (by rfl)];refine Ci.AI _ _ _ 30 rfl B 106 i0 zl 5 56 underlying30 aA.o ay.o aC.o aD.o bA.o (by decide) vh (rows co).length (E0 (rows co)) rfl (AC ap.o d.o) ⟨w.heap.size,0,none⟩ 1 1 (lkL ((co:Int),ho,gg,nn,dd)) rfl rfl (K7 w ((co:Int),ho,gg,nn,dd) 106) (NA _) (by omega) (by unfold maxLen;omega) (by omega) (zS ai d.o.size) ?_;intro vb wb al ad ak;have ab:Hid (Bk wb lb 106 [.int .i64 (co:Int),.int .i64 ho,.bool gg,.string nn,.string dd]):=(aj.o.below d.o).grown ad (fun e=>bx.o e.symm);have am:Hid (Bk wb xb 93 [.slice (some ⟨R,0,none⟩) n n,.slice (some ⟨b,0,none⟩) n n]):=(hx.o.x.below d.o).grown ad (fun e=>aB.o e.symm)
    have aG:Hid (Gv (wb.setCell ⟨R,co,none⟩ vb) B R n (fun i=>if i=co then vb else v i) (I3 rows co ((co:Int),ho,gg,nn,dd))):=by
     have h:=((hx.o.g.alloc (.cells #[.int .i64 (co:Int),.int .i64 ho,.bool gg,.string nn,.string dd] 106)).drew).step (q:=((co:Int),ho,gg,nn,dd)) ao (u:=vb) (W':=wb) (by rw[<-ah.o];exact ad) al (by rw[<-ah.o];exact ak);exact h
    have bz:=zh al
    have aH:Hid (∃v',SeIn (wb.setCell ⟨R,co,none⟩ vb) xb R b B n v' (I3 rows co ((co:Int),ho,gg,nn,dd)) o/\∀i,i<n->(v' i).ownBlock≠some xb):=by
     refine⟨_,⟨am.o.far au.o _,aG.o,?_,hx.o.nx,hx.o.nxR,hx.o.nR,fun i hi=>?_,hx.o.lb⟩,fun i hi=>?_⟩
     .refine(((hx.o.r.below d.o).grown ad fun e=>ar.o e).grown (Au wb ⟨R,co,none⟩ vb) fun e=>hx.o.nR (Option.some.inj e))
     .by_cases c:i=co
      .rw[zD c];intro e
       rcases ak with h1|h1
       .exact ar.o (by rw[<-h1,e])
       rw[e]at h1;have h2:=(hx.o.r.below d.o).lt;simp only[Option.some.injEq]at h1;omega
      rw[zC c];exact hx.o.nv i hi
     by_cases c:i=co
     .rw[zD c];intro e
      rcases ak with h1|h1
      .exact aB.o (by rw[<-h1,e])
      rw[e]at h1;have h2:=(hx.o.x.below d.o).lt;simp only[Option.some.injEq]at h1;omega
     rw[zC c];exact av.o i hi
    have aE:Hid (Below B0 wz wb):=(az.o.trans (d.o.mono (zS an ai))).grown ad (zS (zS an ai) d.o.size) (fun b e=>zS an (ap.o.lt b e).1);have aF:Hid (Below B0 wz (wb.setCell ⟨R,co,none⟩ vb)):=aE.o.setCell (p:=⟨R,co,none⟩) (zS an hx.o.g.lowR) _;have aq:=ad.block R (zJ ag d.o.size) (fun e=>bw.o e.symm);have y1:=(zT (a:=⟨R,co,none⟩) aq).trans ((d.o.cell (p:=⟨R,co,none⟩) ag).trans aw);have y2:=(yF (a:=⟨R,co,none⟩) aq).trans ((d.o.frozen (p:=⟨R,co,none⟩) ag).trans (hx.o.g.fr co));have y3:R<wb.heap.size:=zJ (zJ ag d.o.size) ad.size
    rcases al.2 with⟨_,ax⟩|⟨g9,cap9,cur9,rfl,_⟩
    .exact absurd ax (by omega)
    clear al ad ak d aq;refine hK.o _ _ ⟨am.o.c0,ab.o.c0,ab.o.c1,ab.o.c2,ab.o.c3,ab.o.c4⟩ (fun _=>?_);clear hK K
    try simp only[Act.put,zA]
    refine tkgJ (v:=?_) 17 rfl (⟨am.o.c0,ab.o.c0,ab.o.c1,ab.o.c2,ab.o.c3,ab.o.c4⟩) (Or.inl ⟨by rfl,?_⟩) ?_;rotate_left
    . (intro w aa;obtain⟨q1,q2,q3,q4,q5,q6⟩:=aa;go_simp<;>with_reducible rfl)
    try simp only[Act.put]
    refine zU (rs:=[18]) (by kernel_rfl) (by simp) ?_;refine zK (o:=_) rfl (fun K hK=>?_) ?_
    .go_simp;refine hK.o _ _ ⟨(am.o.far (p:=⟨R,co,none⟩) au.o _).c0,((ab.o.far (p:=⟨R,co,none⟩) af.o _).c0),((ab.o.far (p:=⟨R,co,none⟩) af.o _).c1),((ab.o.far (p:=⟨R,co,none⟩) af.o _).c2),((ab.o.far (p:=⟨R,co,none⟩) af.o _).c3),((ab.o.far (p:=⟨R,co,none⟩) af.o _).c4)⟩ (fun _=>?_);clear hK K
     try simp only[Act.put,zA,zF,zE]
     refine yz (by kernel_rfl) ?_ _;refine yX ?_;exact h.o _ _ _ _ _ _ _ _ _ _ _ _ _ _ _ _ _ _ _ aH aF
    exact zR
   exact zR
  exact zR
 refine zK (o:=_) rfl (fun K hK=>?_) ?_
 .go_simp;refine hK.o _ _ (HO.o _ d.o) (fun _=>?_);clear hK K
  try simp only[Act.put,zA,zF,zE]
  refine zU (rs:=[13]) (by kernel_rfl) (by simp) ?_;refine zK (o:=_) rfl (fun K hK=>?_) ?_
  .have hh:=(d.o.cell (p:=⟨R,co,none⟩) ag).trans aw;go_simp;clear hh;refine hK.o _ _ (HO.o _ d.o) (fun _=>?_);clear hK K
   try simp only[Act.put,zA,zF,zE]
   refine zU (rs:=[16]) (by kernel_rfl) (by simp) ?_;refine zK (o:=_) rfl (fun K hK=>?_) ?_
   .rw [zD (by rfl)];refine Ci.AI _ _ _ 30 rfl B 106 i0 zl 5 56 underlying30 aA.o ay.o aC.o aD.o bA.o (by decide) vh (rows co).length (E0 (rows co)) rfl (AC ap.o d.o) ⟨w.heap.size,0,none⟩ 1 1 (lkL ((co:Int),ho,gg,nn,dd)) rfl rfl (K7 w ((co:Int),ho,gg,nn,dd) 106) (NA _) (by omega) (by unfold maxLen;omega) (by omega) (zS ai d.o.size) ?_;intro vb wb al ad ak;have ab:Hid (Bk wb lb 106 [.int .i64 (co:Int),.int .i64 ho,.bool gg,.string nn,.string dd]):=(aj.o.below d.o).grown ad (fun e=>bx.o e.symm);have am:Hid (Bk wb xb 93 [.slice (some ⟨R,0,none⟩) n n,.slice (some ⟨b,0,none⟩) n n]):=(hx.o.x.below d.o).grown ad (fun e=>aB.o e.symm)
    have aG:Hid (Gv (wb.setCell ⟨R,co,none⟩ vb) B R n (fun i=>if i=co then vb else v i) (I3 rows co ((co:Int),ho,gg,nn,dd))):=by
     have h:=((hx.o.g.alloc (.cells #[.int .i64 (co:Int),.int .i64 ho,.bool gg,.string nn,.string dd] 106)).drew).step (q:=((co:Int),ho,gg,nn,dd)) ao (u:=vb) (W':=wb) (by rw[<-ah.o];exact ad) al (by rw[<-ah.o];exact ak);exact h
    have bz:=zh al
    have aH:Hid (∃v',SeIn (wb.setCell ⟨R,co,none⟩ vb) xb R b B n v' (I3 rows co ((co:Int),ho,gg,nn,dd)) o/\∀i,i<n->(v' i).ownBlock≠some xb):=by
     refine⟨_,⟨am.o.far au.o _,aG.o,?_,hx.o.nx,hx.o.nxR,hx.o.nR,fun i hi=>?_,hx.o.lb⟩,fun i hi=>?_⟩
     .refine(((hx.o.r.below d.o).grown ad fun e=>ar.o e).grown (Au wb ⟨R,co,none⟩ vb) fun e=>hx.o.nR (Option.some.inj e))
     .by_cases c:i=co
      .rw[zD c];intro e
       rcases ak with h1|h1
       .exact ar.o (by rw[<-h1,e])
       rw[e]at h1;have h2:=(hx.o.r.below d.o).lt;simp only[Option.some.injEq]at h1;omega
      rw[zC c];exact hx.o.nv i hi
     by_cases c:i=co
     .rw[zD c];intro e
      rcases ak with h1|h1
      .exact aB.o (by rw[<-h1,e])
      rw[e]at h1;have h2:=(hx.o.x.below d.o).lt;simp only[Option.some.injEq]at h1;omega
     rw[zC c];exact av.o i hi
    have aE:Hid (Below B0 wz wb):=(az.o.trans (d.o.mono (zS an ai))).grown ad (zS (zS an ai) d.o.size) (fun b e=>zS an (ap.o.lt b e).1);have aF:Hid (Below B0 wz (wb.setCell ⟨R,co,none⟩ vb)):=aE.o.setCell (p:=⟨R,co,none⟩) (zS an hx.o.g.lowR) _;have aq:=ad.block R (zJ ag d.o.size) (fun e=>bw.o e.symm);have y1:=(zT (a:=⟨R,co,none⟩) aq).trans ((d.o.cell (p:=⟨R,co,none⟩) ag).trans aw);have y2:=(yF (a:=⟨R,co,none⟩) aq).trans ((d.o.frozen (p:=⟨R,co,none⟩) ag).trans (hx.o.g.fr co));have y3:R<wb.heap.size:=zJ (zJ ag d.o.size) ad.size
    rcases al.2 with⟨_,ax⟩|⟨g9,cap9,cur9,rfl,_⟩
    .exact absurd ax (by omega)
    clear al ad ak d aq;refine hK.o _ _ ⟨am.o.c0,ab.o.c0,ab.o.c1,ab.o.c2,ab.o.c3,ab.o.c4⟩ (fun _=>?_);clear hK K
    try simp only[Act.put,zA]
    refine tkgJ (v:=?_) 17 rfl (⟨am.o.c0,ab.o.c0,ab.o.c1,ab.o.c2,ab.o.c3,ab.o.c4⟩) (Or.inl ⟨by rfl,?_⟩) ?_;rotate_left
    . (intro w aa;obtain⟨q1,q2,q3,q4,q5,q6⟩:=aa;go_simp<;>with_reducible rfl)
    try simp only[Act.put]
    refine zU (rs:=[18]) (by kernel_rfl) (by simp) ?_;refine zK (o:=_) rfl (fun K hK=>?_) ?_
    .go_simp;refine hK.o _ _ ⟨(am.o.far (p:=⟨R,co,none⟩) au.o _).c0,((ab.o.far (p:=⟨R,co,none⟩) af.o _).c0),((ab.o.far (p:=⟨R,co,none⟩) af.o _).c1),((ab.o.far (p:=⟨R,co,none⟩) af.o _).c2),((ab.o.far (p:=⟨R,co,none⟩) af.o _).c3),((ab.o.far (p:=⟨R,co,none⟩) af.o _).c4)⟩ (fun _=>?_);clear hK K
     try simp only[Act.put,zA,zF,zE]
     refine yz (by kernel_rfl) ?_ _;refine yX ?_;exact h.o _ _ _ _ _ _ _ _ _ _ _ _ _ _ _ _ _ _ _ aH aF
    exact zR
   exact zR
  exact zR
 exact zR
theorem Wk:(prog.info? 30).map (fun i=>(i.zero,i.size,i.bytes))=some (some (.slice none 0 0),1,24):=by kernel_rfl
theorem SeIn.build{W:World}{R b B n:Nat}(hG:Gv W B R n (fun _=>.slice none 0 0) fun _=>[])(hr:RoI W b n fun _=>-1)(aa:R≠b)(d:B<=b):
 SeIn (W.alloc (.cells #[.slice (some ⟨R,0,none⟩) n n,.slice (some ⟨b,0,none⟩) n n] 93)) W.heap.size R b B n (fun _=>.slice none 0 0) (fun _=>[]) fun _=>-1 :=
 ⟨Bk.new W _ _,hG.alloc _,hr.alloc _,fun e=>by have:=hr.lt;omega,fun e=>by have:=hG.lt;omega,aa,fun i _ h=>(by cases h),d⟩
theorem XK(n:Nat)(w:World)(hn:n<=1000):Calls prog 73 #[.slice (some ⟨w.heap.size+1,0,none⟩) 1 1,.int .i64 (n:Int)] (((w.alloc (.cells (madeCells #[(.slice none 0 0:Value)] n) 30)).alloc (.cells #[.int .i64 (-1)] 3)).drew) (fun e w'=>(∃b,e=.returned (.slice (some ⟨b,0,none⟩) n n)/\Gv w' w.heap.size (w.heap.size) n (fun _=>.slice none 0 0) (fun _=>[])/\RoI w' b n (fun _=>-1)/\(w.heap.size)≠b/\w.heap.size<=b)/\Below w.heap.size w w'):=by
 have hL:Bk (((w.alloc (.cells (madeCells #[(.slice none 0 0:Value)] n) 30)).alloc (.cells #[.int .i64 (-1)] 3)).drew) (w.heap.size+1) 3 [.int .i64 (-1)]:=by
  have h:=Bk.new (w.alloc (.cells (madeCells #[(.slice none 0 0:Value)] n) 30)) 3 [.int .i64 (-1)];rw[zX]at h;exact h
 have hB:Below w.heap.size w (((w.alloc (.cells (madeCells #[(.slice none 0 0:Value)] n) 30)).alloc (.cells #[.int .i64 (-1)] 3)).drew):=(((zI _ w).alloc (zB _) _).alloc (by simp) _).drew
 have hG:Gv (((w.alloc (.cells (madeCells #[(.slice none 0 0:Value)] n) 30)).alloc (.cells #[.int .i64 (-1)] 3)).drew) w.heap.size (w.heap.size) n (fun _=>.slice none 0 0) fun _=>[]:=by
  exact((Gv.start w (zB _) n _).alloc _).drew
 refine(Er n _ _ hn (hL.c0) hL.lt).mono ?_;rintro e w3 ⟨⟨rfl,d⟩,hb⟩;exact⟨⟨_,rfl,hG.below hb,RoI.of_row d,fun e=>by have:=hG.lt;omega,hB.size⟩,hB.trans (hb.mono hB.size)⟩
theorem XL(n:Nat)(w:World)(hn:n<=1000):Calls prog 73 #[.slice (some ⟨w.heap.size,0,none⟩) 1 1,.int .i64 (n:Int)] (((w.alloc (.cells #[.int .i64 (-1)] 3)).alloc (.cells (madeCells #[(.slice none 0 0:Value)] n) 30)).drew) (fun e w'=>(∃b,e=.returned (.slice (some ⟨b,0,none⟩) n n)/\Gv w' w.heap.size (w.heap.size+1) n (fun _=>.slice none 0 0) (fun _=>[])/\RoI w' b n (fun _=>-1)/\(w.heap.size+1)≠b/\w.heap.size<=b)/\Below w.heap.size w w'):=by
 have hL:Bk (((w.alloc (.cells #[.int .i64 (-1)] 3)).alloc (.cells (madeCells #[(.slice none 0 0:Value)] n) 30)).drew) (w.heap.size) 3 [.int .i64 (-1)]:=by
  exact((Bk.new w 3 [.int .i64 (-1)]).alloc _).below (zI _ _).drew
 have hB:Below w.heap.size w (((w.alloc (.cells #[.int .i64 (-1)] 3)).alloc (.cells (madeCells #[(.slice none 0 0:Value)] n) 30)).drew):=(((zI _ w).alloc (zB _) _).alloc (by simp) _).drew
 have hG:Gv (((w.alloc (.cells #[.int .i64 (-1)] 3)).alloc (.cells (madeCells #[(.slice none 0 0:Value)] n) 30)).drew) w.heap.size (w.heap.size+1) n (fun _=>.slice none 0 0) fun _=>[]:=by
  have h:=Gv.start (w.alloc (.cells #[.int .i64 (-1)] 3)) (B:=w.heap.size) (by simp) n 30;rw[zX]at h;exact h.drew
 refine(Er n _ _ hn (hL.c0) hL.lt).mono ?_;rintro e w3 ⟨⟨rfl,d⟩,hb⟩;exact⟨⟨_,rfl,hG.below hb,RoI.of_row d,fun e=>by have:=hG.lt;omega,hB.size⟩,hB.trans (hb.mono hB.size)⟩
theorem XM(n:Nat)(w:World)(hn:n<=1000):Calls prog 73 #[.slice (some ⟨w.heap.size,0,none⟩) 1 1,.int .i64 (n:Int)] ((w.alloc (.cells #[.int .i64 (-1)] 3)).drew) (fun e w'=>(∃b,e=.returned (.slice (some ⟨b,0,none⟩) n n)/\RoI w' b n (fun _=>-1)/\w.heap.size<=b)/\Below w.heap.size w w'):=by
 have hL:Bk ((w.alloc (.cells #[.int .i64 (-1)] 3)).drew) (w.heap.size) 3 [.int .i64 (-1)]:=by
  exact(Bk.new w 3 [.int .i64 (-1)]).below (zI _ _).drew
 have hB:Below w.heap.size w ((w.alloc (.cells #[.int .i64 (-1)] 3)).drew):=((zI _ w).alloc (zB _) _).drew;refine(Er n _ _ hn (hL.c0) hL.lt).mono ?_;rintro e w3 ⟨⟨rfl,d⟩,hb⟩;exact⟨⟨_,rfl,RoI.of_row d,hB.size⟩,hB.trans (hb.mono hB.size)⟩
theorem bg7{c0 c1 c2 c3 c4 c5 c7 c8 ad ae af ag ah ai aj ak al am an ao ap aq ar au av aw ax ay az aA aB aC aD aE aF aG aH aI aJ aK aL aM aN aO aP aQ aR aS aT aU aV aW aX aY aZ a0 a1 a2 a3 a4 a5 a6 a7 a8 ba bb a9 bc bd be bf bg bh bi:Value}{Q:Exit->Act->World->Prop}(n:Nat)(w:World)(hn:n<=1000)
 (h:∀(u28 u29 u30 u31 u32 u33 u34:Value)(xb R b:Nat)(W:World)(_:Hid (SeIn W xb R b w.heap.size n (fun _=>.slice none 0 0) (fun _=>[]) fun _=>-1))(_:Hid (Below w.heap.size w W))(_:w.heap.size<=xb),Q .normal ⟨#[c0,c1,c2,c3,c4,c5,.int .i64 (n:Int),c7,c8,.pointer (some ⟨xb,0,none⟩),ad,ae,af,ag,ah,ai,aj,ak,al,am,an,ao,ap,aq,ar,au,av,aw,u28,u29,u30,u31,u32,u33,u34,ax,ay,az,aA,aB,aC,aD,aE,aF,aG,aH,aI,aJ,aK,aL,aM,aN,aO,aP,aQ,aR,aS,aT,aU,aV,aW,aX,aY,aZ,a0,a1,a2,a3,a4,a5,a6,a7,a8,ba,bb],[]⟩ (W)):
 Code.wp prog (bgR 7) Q ⟨#[c0,c1,c2,c3,c4,c5,.int .i64 (n:Int),c7,c8,a9,ad,ae,af,ag,ah,ai,aj,ak,al,am,an,ao,ap,aq,ar,au,av,aw,bc,bd,be,bf,bg,bh,bi,ax,ay,az,aA,aB,aC,aD,aE,aF,aG,aH,aI,aJ,aK,aL,aM,aN,aO,aP,aQ,aR,aS,aT,aU,aV,aW,aX,aY,aZ,a0,a1,a2,a3,a4,a5,a6,a7,a8,ba,bb],[]⟩ w:=by
 conv=>arg 2;whnf
 conv=>arg 4;zeta
 replace h:=zh h;have bj:=wT (P:=prog) 91 30 (.slice none 0 0) 24 underlying91 Wk rfl .i64 .i64 n (by omega) (by omega);have k1:=zh (XK n w hn);have k2:=zh (XL n w hn);have k3:=zh (XM n w hn);refine yx ?_;refine yq (S:=fun _=>True) (by kernel_rfl) trivial (fun _=>?_);refine xY (i:=0) (oi:=_) (v:=?_) rfl (by kernel_rfl) (by kernel_rfl) (by kernel_rfl) (fun _ _ _ h=>h) (Or.inl ⟨by rfl,?_⟩) trivial ?_;rotate_left
 . (intro w d;go_simp<;>with_reducible rfl)
 try simp only[Act.put,zA]
 refine xY (i:=3) (oi:=_) (v:=?_) rfl (by kernel_rfl) (by kernel_rfl) (by kernel_rfl) (fun _ _ _ h=>h) (Or.inl ⟨by rfl,?_⟩) trivial ?_;rotate_left
 . (intro w d;go_simp<;>with_reducible rfl)
 try simp only[Act.put]
 refine zU (rs:=[1,2]) (by kernel_rfl) (by simp) ?_;refine zK (o:=_) rfl (fun K hK=>?_) ?_
 .go_simp;refine hK.o _ _ trivial (fun _=>?_);clear hK K
  try simp only[Act.put,zA,zF,zE]
  refine zU (rs:=[2]) (by kernel_rfl) (by simp) ?_;refine zK (o:=_) rfl (fun K hK=>?_) ?_
  .go_simp;refine hK.o _ _ trivial (fun _=>?_);clear hK K
   try simp only[Act.put,zA,zF,zE]
   refine zU (rs:=[4]) (by kernel_rfl) (by simp) ?_;refine zK (o:=_) rfl (fun K hK=>?_) ?_
   .go_simp;go_at_call 73;refine k1.o.mono ?_;rintro _ w3 ⟨⟨b,rfl,hG,hr,ab,aa⟩,hb⟩
    go_wp2_with fail
    refine hK.o _ _ trivial (fun _=>?_);clear hK K
    try simp only[Act.put,zA,zF,zE]
    refine xY (i:=5) (oi:=_) (v:=?_) rfl (by kernel_rfl) (by kernel_rfl) (by kernel_rfl) (fun _ _ _ h=>h) (Or.inl ⟨by rfl,?_⟩) trivial ?_;rotate_left
    . (intro w d;go_simp<;>with_reducible rfl)
    try simp only[Act.put,zA]
    refine zU (rs:=[6]) (by kernel_rfl) (by simp) ?_;refine zK (o:=_) rfl (fun K hK=>?_) ?_
    .go_simp;refine hK.o _ _ trivial (fun _=>?_);clear hK K
     try simp only[Act.put,zA,zF,zE]
     refine xY (i:=7) (oi:=_) (v:=?_) rfl (by kernel_rfl) (by kernel_rfl) (by kernel_rfl) (fun _ _ _ h=>h) (Or.inl ⟨by rfl,?_⟩) trivial ?_;rotate_left
     . (intro w d;go_simp<;>with_reducible rfl)
     try simp only[Act.put,zA]
     refine yz (by kernel_rfl) ?_ _;refine yX ?_;exact h.o _ _ _ _ _ _ _ _ (w.heap.size) b _ (SeIn.build hG hr ab aa) (hb.alloc hb.size _) hb.size
    exact zR
   exact zR
  exact zR
 refine zK (o:=_) rfl (fun K hK=>?_) ?_
 .go_simp;refine hK.o _ _ trivial (fun _=>?_);clear hK K
  try simp only[Act.put,zA,zF,zE]
  refine zU (rs:=[1,4]) (by kernel_rfl) (by simp) ?_;refine zK (o:=_) rfl (fun K hK=>?_) ?_
  .go_simp;refine hK.o _ _ trivial (fun _=>?_);clear hK K
   try simp only[Act.put,zA,zF,zE]
   refine zU (rs:=[4]) (by kernel_rfl) (by simp) ?_;refine zK (o:=_) rfl (fun K hK=>?_) ?_
   .go_simp;go_at_call 73;refine k2.o.mono ?_;rintro _ w3 ⟨⟨b,rfl,hG,hr,ab,aa⟩,hb⟩
    go_wp2_with fail
    refine hK.o _ _ trivial (fun _=>?_);clear hK K
    try simp only[Act.put,zA,zF,zE]
    refine xY (i:=5) (oi:=_) (v:=?_) rfl (by kernel_rfl) (by kernel_rfl) (by kernel_rfl) (fun _ _ _ h=>h) (Or.inl ⟨by rfl,?_⟩) trivial ?_;rotate_left
    . (intro w d;go_simp<;>with_reducible rfl)
    try simp only[Act.put,zA]
    refine zU (rs:=[6]) (by kernel_rfl) (by simp) ?_;refine zK (o:=_) rfl (fun K hK=>?_) ?_
    .go_simp;refine hK.o _ _ trivial (fun _=>?_);clear hK K
     try simp only[Act.put,zA,zF,zE]
     refine xY (i:=7) (oi:=_) (v:=?_) rfl (by kernel_rfl) (by kernel_rfl) (by kernel_rfl) (fun _ _ _ h=>h) (Or.inl ⟨by rfl,?_⟩) trivial ?_;rotate_left
     . (intro w d;go_simp<;>with_reducible rfl)
     try simp only[Act.put,zA]
     refine yz (by kernel_rfl) ?_ _;refine yX ?_;exact h.o _ _ _ _ _ _ _ _ (w.heap.size+1) b _ (SeIn.build hG hr ab aa) (hb.alloc hb.size _) hb.size
    exact zR
   exact zR
  refine zK (o:=_) rfl (fun K hK=>?_) ?_
  .go_simp;go_at_call 73;refine k3.o.mono ?_;rintro _ w3 ⟨⟨b,rfl,hr,aa⟩,hb⟩
   go_wp2_with fail
   refine hK.o _ _ trivial (fun _=>?_);clear hK K
   try simp only[Act.put,zA,zF,zE]
   refine zU (rs:=[1]) (by kernel_rfl) (by simp) ?_;refine zK (o:=_) rfl (fun K hK=>?_) ?_
   .go_simp;refine hK.o _ _ trivial (fun _=>?_);clear hK K
    try simp only[Act.put,zA,zF,zE]
    have hq:=SeIn.build (Gv.start w3 hb.size n 30) (hr.alloc (.cells (madeCells #[(.slice none 0 0:Value)] n) 30)) (fun e=>by have:=hr.lt;omega) aa;rw[zX]at hq;refine xY (i:=5) (oi:=_) (v:=?_) rfl (by kernel_rfl) (by kernel_rfl) (by kernel_rfl) (fun _ _ _ h=>h) (Or.inl ⟨by rfl,?_⟩) trivial ?_;rotate_left
    . (intro w d;go_simp<;>with_reducible rfl)
    try simp only[Act.put,zA]
    refine zU (rs:=[6]) (by kernel_rfl) (by simp) ?_;refine zK (o:=_) rfl (fun K hK=>?_) ?_
    .go_simp;refine hK.o _ _ trivial (fun _=>?_);clear hK K
     try simp only[Act.put,zA,zF,zE]
     refine xY (i:=7) (oi:=_) (v:=?_) rfl (by kernel_rfl) (by kernel_rfl) (by kernel_rfl) (fun _ _ _ h=>h) (Or.inl ⟨by rfl,?_⟩) trivial ?_;rotate_left
     . (intro w d;go_simp<;>with_reducible rfl)
     try simp only[Act.put,zA]
     refine yz (by kernel_rfl) ?_ _;refine yX ?_;exact h.o _ _ _ _ _ _ _ _ (w3.heap.size) b _ (hq) ((hb.alloc hb.size _).alloc (zS hb.size (by simp)) _) (zS hb.size (by simp))
    exact zR
   exact zR
  exact zR
 exact zR
def Se(s:SR)(base:Nat)(w:World)(xb b:Nat)(o:Nat->Int):Prop :=
 ∃R B v,base<=B/\base<=xb/\SeIn w xb R b B s.ps.length v (row s.vot) o
theorem Se.below{s:SR}{base xb b:Nat}{o:Nat->Int}{w w':World}(h:Se s base w xb b o)(hb:Below w.heap.size w w'):Se s base w' xb b o:=by
 obtain⟨R,B,v,h1,h2,h3⟩:=h;exact⟨R,B,v,h1,h2,h3.below hb⟩
def KA(s:SR)(F:List Int)(w:World)(e:Ending)(w':World):Prop :=
 (if Ao s=true/\AZ s.ps.length F=true then ∃xb b,e=.returned (.tuple #[.pointer (some ⟨xb,0,none⟩),.int .i64 0])/\Se s w.heap.size w' xb b (fun x=>if x∈toN F then 0 else -1)
   else e=.returned (.tuple #[.pointer none,.int .i64 1]))/\Below w.heap.size w w'
theorem Tc{l:List Lk}{k co:Nat}(h:k<l.length)(d:l[k].1=(co:Int))(p:Nat):I3 (row (l.take k)) co l[k] p=row (l.take (k+1)) p:=by
 unfold I3 row;rw[zO h,yL]
 by_cases e:p=co
 .rw[zD e,zk,zD (by rw[e,d];simp)];rfl
 rw[zC e,zk,zC (by rw[d];simp;omega)];simp
theorem UL(l:List Lk)(k p:Nat):(row (l.take k) p).length<=l.length:=by
 unfold row;have h1:=zr (fun x:Lk=>decide (x.1=(p:Int))) (l.take k);have h2:(l.take k).length<=l.length:=wk _ _;omega
theorem GD{s:SR}(h:Ao s=true):∀x,x∈s.vot->(0<=x.1/\x.1<s.ps.length)/\(0<=x.2.1/\x.2.1<s.ps.length)/\unitsN (lkP x)≠0:=by
 unfold Ao at h;simp only[zq,yG]at h;intro x hx;obtain⟨i,hi,rfl⟩:=zg hx;obtain⟨⟨a1,a2,_,a4⟩,_,_⟩:=D4 h.2.2.2 hi;exact⟨a1,a2,a4⟩
theorem Qe(s:SR)(Ap Ac Av Af:Option Addr)(cp cc cv cf:Nat)(F:List Int)(w:World)(hE:Env w)(hs:StIn w s Ap Ac Av)(aQ:s.cap.length<=300)(a1:s.vot.length<=300)(hF:InInt w Af F)(aK:F.length<=140737488355328):
 Calls prog 40 #[.agg #[.slice Ap s.ps.length cp,.slice Ac s.cap.length cc,.slice Av s.vot.length cv],.slice Af F.length cf] w (KA s F w):=by
 have ai:Hid (Bk (w.alloc (.cells #[.slice Ap s.ps.length cp,.slice Ac s.cap.length cc,.slice Av s.vot.length cv] 32)) w.heap.size 32 (SC s Ap Ac Av cp cc cv)):=Bk.new w _ _;have af:Hid (Below w.heap.size w (w.alloc (.cells #[.slice Ap s.ps.length cp,.slice Ac s.cap.length cc,.slice Av s.vot.length cv] 32))):=(zI _ w).alloc (zB _) _;have u0:=ai.o.c0;have u1:=ai.o.c1;have u2:=ai.o.c2;have u9:=ai.o.lt;have ks:=EZ s Ap Ac Av cp cc cv _ (hE.below af.o) (hs.below af.o);replace hE:=zh hE;replace hs:=zh hs;replace hF:=zh hF;have a0:=hs.o.np
 cases d:Ao s with
 |false=>
  rw[d]at ks;replace ks:=zh ks;have hP:Hid (∀e W,e=.returned (.tuple #[.pointer none,.int .i64 1])->Below w.heap.size w W->KA s F w e W):=fun e W h1 h2=>⟨by rw[zC (by rw[d];simp)];exact h1,h2⟩;clear d;go_enter func40,ntmps40
  go_wp2_with fail
  refine ks.o.q fun w2 hb=>?_;have aa:=af.t hb;clear hb;go_wp2;go_ret2;exact hP.o _ _ rfl aa.o
 |true=>
  rw[d]at ks;replace ks:=zh ks;have aX:=K9 d;have aV:=zh (GD d);go_enter func40,ntmps40
  go_wp2_with fail
  refine ks.o.q fun w2 hb=>?_;have aa:=af.t hb;have ag:=zh (ai.o.below hb);clear hb u0 u1 u2 u9 ai af ks;have u0:=ag.o.c0;have u1:=ag.o.c1;have u2:=ag.o.c2;have u9:=ag.o.lt;have kr:=JF s Ap Ac Av Af cp cc cv cf F w2 (hE.o.below aa.o) (hs.o.below aa.o) aQ (hF.o.below aa.o) aK
  by_cases hls:AZ s.ps.length F=true
  .have aj:Hid (Calls prog 35 #[.agg #[.slice Ap s.ps.length cp,.slice Ac s.cap.length cc,.slice Av s.vot.length cv],.slice Af F.length cf] w2 fun e w'=>(∃v,e=.returned (.tuple #[.slice v s.ps.length s.ps.length,.int .i64 0]))/\Below w2.heap.size w2 w'):=kr.mono fun e w' h=>⟨by have h1:=h.1;rw[zD ⟨d,hls⟩]at h1;obtain⟨b,e1,_⟩:=h1;exact⟨_,e1⟩,h.2⟩;clear kr;have hP:Hid (∀e W,(∃xb b,e=.returned (.tuple #[.pointer (some ⟨xb,0,none⟩),.int .i64 0])/\Se s w.heap.size W xb b (fun x=>if x∈toN F then 0 else -1))->Below w.heap.size w W->KA s F w e W):=fun e W h1 h2=>⟨by rw[zD ⟨d,hls⟩];exact h1,h2⟩
   have aR:Hid (∀i (h:i<F.length),∃f:Nat,F[i]=(f:Int)/\f<s.ps.length/\(toN F)[i]? = some f):=fun i h=>by
    obtain⟨f,h1,h2,h3⟩:=Nz hls h;exact⟨f,h1,by omega,h3⟩
   have aG:Hid ((toN F).length=F.length):=by unfold Hid toN;rw[zW]
   replace hls:=zh hls;replace d:=zh d
   go_wp2_with fail
   refine aj.o.mono ?_;rintro e w3 ⟨⟨rk,rfl⟩,hb⟩;have ah:=aa.t hb;have az:=zh (ag.o.below hb);clear hb u0 u1 u2 u9 ag aa aj
   go_wp2_with fail
   refine bg7 s.ps.length w3 (by omega) ?_;intro _ _ _ _ _ _ _ xb R b w4 av ap al;have aq:=zh (ah.o.trans (ap.o.mono ah.o.size));have an:=zh (az.o.below ap.o);have u2:=an.o.c2;have u9:=an.o.lt;have ad:Hid (w.heap.size<=w3.heap.size):=ah.o.size;clear ap az ah;have aW:Hid (w.heap.size<=xb):=zS ad.o al;have aw:Hid (∃v,SeIn w4 xb R b w3.heap.size s.ps.length v (row (s.vot.take 0)) (fun _=>-1)/\∀i,i<s.ps.length->(v i).ownBlock≠some xb):=⟨_,av.o,fun i _ h=>(by cases h)⟩;have aU:Hid (∀k (h:k<s.vot.length) (co:Nat),s.vot[k].1=(co:Int)->I3 (row (s.vot.take k)) co s.vot[k]=row (s.vot.take (k+1))):=fun k h co e=>funext fun p=>Tc h e p;have aS:=zh (fun k p=>UL s.vot k p);clear av al
   go_wp2_with fail
   go_loopw [38] (fun ix wr=>∃(k:Nat),k<=s.vot.length/\ix=.int .i64 (k:Int)/\Hid (Below w.heap.size w wr)/\Hid (∃v,SeIn wr xb R b w3.heap.size s.ps.length v (row (s.vot.take k)) (fun _=>-1)/\∀i,i<s.ps.length->(v i).ownBlock≠some xb)) (fun ix _=>s.vot.length-(intOf ix).toNat)
   case atStart=>exact⟨0,zQ _,rfl,aq,aw⟩
   case round=>
    obtain⟨k,hk,rfl,hB,hS⟩:=hrel;clear aq aw u2 u9 an
    by_cases hlt:k<s.vot.length
    .obtain ⟨vb,off,rfl,aY,aA⟩:=(hs.o.below hB.o).vot (by omega);obtain⟨e1,e2,e3,e4,e5⟩:=aA k hlt;have aF:=aV.o s.vot[k] (zN hlt);have aH:=zh (aU.o k hlt);obtain⟨x,hx⟩:∃x,x=s.vot[k]:=⟨_,rfl⟩;rw[<-hx]at e1 e2 e3 e4 e5 aF aH;replace hx:=zh hx;obtain⟨coI,ho,gg,nn,dd⟩:=x;obtain⟨⟨i1,i2⟩,_,_⟩:=aF;replace i1:0<=coI:=i1;replace i2:coI<s.ps.length:=i2;obtain⟨co,rfl⟩:∃c:Nat,coI=(c:Int):=⟨coI.toNat,by omega⟩;replace e1:wr.cell? ⟨vb,off+k*5,none⟩=some (.int .i64 (co:Int)):=e1;replace e2:wr.cell? ⟨vb,off+k*5+1,none⟩=some (.int .i64 ho):=e2;replace e3:wr.cell? ⟨vb,off+k*5+2,none⟩=some (.bool gg):=e3;replace e4:wr.cell? ⟨vb,off+k*5+3,none⟩=some (.string nn):=e4;replace e5:wr.cell? ⟨vb,off+k*5+4,none⟩=some (.string dd):=e5;have aT:=zh (aH.o co rfl);have j0:(0:Int)<=(k:Int):=by omega
     have j1:(k:Int)<(s.vot.length:Int):=by omega
     obtain⟨v,ab,ao⟩:=hS.o;have ak:Hid (Bk (wr.alloc (.cells #[.int .i64 (co:Int),.int .i64 ho,.bool gg,.string nn,.string dd] 106)) wr.heap.size 106 [.int .i64 (co:Int),.int .i64 ho,.bool gg,.string nn,.string dd]):=Bk.new wr _ _;have ar:=zh (hB.o.alloc hB.o.size (.cells #[.int .i64 (co:Int),.int .i64 ho,.bool gg,.string nn,.string dd] 106));have ay:=zh (ab.below ((zI _ wr).alloc (zB _) (.cells #[.int .i64 (co:Int),.int .i64 ho,.bool gg,.string nn,.string dd] 106)))
     have aP:Hid (∀i,i<s.ps.length->(v i).ownBlock≠some wr.heap.size):=fun i hi e=>by
      have:=((ab.g.rows i hi).lt _ e).2;omega
     have aM:Hid (xb≠R):=ab.nxR
     have aL:Hid (wr.heap.size≠R):=fun e=>by
      have:=ab.g.lt;omega
     replace ao:=zh ao;clear ab aA
     go_wp2_with fail
     refine XJ xb R b wr.heap.size w3.heap.size w.heap.size s.ps.length co ho gg nn dd v (row (s.vot.take k)) (fun _=>-1) _ w (by omega) (by omega) (by have:=aS.o k co;omega) ay.o ak.o aM.o aL.o ao.o aP.o ad.o ar.o ?_;intro _ _ _ _ _ _ _ _ _ _ _ _ _ _ _ _ _ _ w6 ax aI;rw[aT.o]at ax;clear e1 e2 e3 e4 e5 ak ar ay;go_wp2
     go_roundw
     case rel=>exact⟨k+1,by omega,by go_num,aI,ax⟩
     case measure=>simp[intOf];omega
    obtain rfl:k=s.vot.length:=by omega
    obtain⟨v,ab,_⟩:=hS.o;rw[zn]at ab;have au:Hid (SeIn wr xb R b w3.heap.size s.ps.length v (row s.vot) (ini (toN F) 0)):=ab.congr fun x _=>by simp[ini]
    clear hS ab
    go_wp2_with fail
    go_loopw [63] (fun ix wz=>∃(j:Nat),j<=F.length/\ix=.int .i64 (j:Int)/\Hid (Below w.heap.size w wz)/\Hid (SeIn wz xb R b w3.heap.size s.ps.length v (row s.vot) (ini (toN F) j))) (fun ix _=>F.length-(intOf ix).toNat)
    case atStart=>exact⟨0,zQ _,rfl,hB,au⟩
    case round=>
     obtain⟨j,hj,rfl,am,ae⟩:=hrel;obtain⟨wz,rfl⟩:∃z,z=wr:=⟨_,rfl⟩;clear hB au
     by_cases hjl:j<F.length
     .obtain⟨fb,fo,rfl,aZ,aE⟩:=hF.o.below am.o (by omega);obtain⟨f,aB,aC,aD⟩:=aR.o j hjl;have e1:=aE j hjl;rw[aB]at e1;have j0:(0:Int)<=(j:Int):=by omega
      have j1:(j:Int)<(F.length:Int):=by omega
      have f0:(0:Int)<=(f:Int):=by omega
      have f1:(f:Int)<(s.ps.length:Int):=by omega
      have x0:=ae.o.x.c1;have x9:=ae.o.x.lt;have r0:=ae.o.r.cell f aC;have r1:=ae.o.r.fr f;have r9:=ae.o.r.lt;have ak:Hid (w.heap.size<=b):=zS ad.o ae.o.lb;have aO:Hid (SeIn (wz.setCell ⟨b,f,none⟩ (.int .i64 0)) xb R b w3.heap.size s.ps.length v (row s.vot) (ini (toN F) (j+1))):=(ae.o.set aC 0).congr fun x _=>LJ aD x;have aJ:Hid (Below w.heap.size w (wz.setCell ⟨b,f,none⟩ (.int .i64 0))):=am.o.setCell (p:=⟨b,f,none⟩) ak.o _;clear aB aD aE;go_wp2
      go_roundw
      case rel=>exact⟨j+1,by omega,by go_num,aJ,aO⟩
      case measure=>simp[intOf];omega
     obtain rfl:j=F.length:=by omega
     have aN:Hid (Se s w.heap.size wz xb b (fun x=>if x∈toN F then 0 else -1)):=⟨R,w3.heap.size,v,ad.o,aW.o,ae.o.congr fun x _=>by rw[<-aG.o];exact Ow _ x⟩;go_wp2;go_ret2;exact hP.o _ _ ⟨xb,b,rfl,aN.o⟩ am.o
  have aj:Hid (Calls prog 35 #[.agg #[.slice Ap s.ps.length cp,.slice Ac s.cap.length cc,.slice Av s.vot.length cv],.slice Af F.length cf] w2 fun e w'=>e=.returned (.tuple #[.slice none 0 0,.int .i64 1])/\Below w2.heap.size w2 w'):=kr.mono fun e w' h=>⟨by have h1:=h.1;rwa [zC fun c=>hls c.2]at h1,h.2⟩;clear kr;have hP:Hid (∀e W,e=.returned (.tuple #[.pointer none,.int .i64 1])->Below w.heap.size w W->KA s F w e W):=fun e W h1 h2=>⟨by rw[zC fun c=>hls c.2];exact h1,h2⟩;replace hls:=zh hls;replace d:=zh d
  go_wp2_with fail
  refine aj.o.q fun w3 hb=>?_;have ah:=aa.t hb;clear hb u0 u1 u2 u9 ag aa aj;go_wp2;go_ret2;exact hP.o _ _ rfl ah.o
def QB(W:World)(sb:Nat)(q:Rat):Prop:=∃g n d,(.agg #[.bool g,.string n,.string d]:Value)=qv q/\Bk W sb 48 [.bool g,.string n,.string d]
theorem QB.below{W W':World}{sb:Nat}{q:Rat}(h:QB W sb q)(hb:Below W.heap.size W W'):QB W' sb q:=by
 obtain⟨g,n,d,e,h⟩:=h;exact⟨g,n,d,e,h.below hb⟩
def Xm(n:Nat)(l:List Lk):Prop:=∀x,x∈l->(0<=x.2.1/\x.2.1<n)/\unitsN (lkP x)≠0
theorem UM:(.agg #[.bool false,.string ⟨#[49]⟩,.string ⟨#[50]⟩]:Value)=qv (uq 3000):=by kernel_rfl
theorem UN:(.agg #[.bool false,.string ⟨#[48]⟩,.string ⟨#[49]⟩]:Value)=qv (uq 0):=by kernel_rfl
theorem KB(xb R B n p:Nat)(v:Nat->Value)(rows:Nat->List Lk)(S:Nat->Bool)(w:World)(hE:Env w)(hG:Gv w B R n v rows)(hp:p<n)(_hn:n<=1000)(hl:(rows p).length<=1000000)(ai:Xm n (rows p))
 (HC:∀W,Below w.heap.size w W->∀q:Int,0<=q->q<n->Calls prog 88 #[.pointer (some ⟨xb,0,none⟩),.int .i64 q] W fun e w'=>e=.returned (.bool (S q.toNat))/\Below W.heap.size W w'):
 Calls prog 89 #[.slice (some ⟨R,0,none⟩) n n,.int .i64 (p:Int),.func (.func 88) #[.pointer (some ⟨xb,0,none⟩)] #[]] w fun e w'=>e=.returned (.bool (decide (3000<Cs S (rows p))))/\Below w.heap.size w w':=by
 have u0:=hG.hd p hp;have u9:=hG.lt;obtain⟨A,cap,hv,hA⟩:=Oy (hG.rows p hp);rw[hv]at u0;clear hv;have j0:(0:Int)<=(p:Int):=by omega
 have j1:(p:Int)<(n:Int):=by omega
 have aq:Hid (Bk (w.alloc (.cells #[.bool false,.string ⟨#[48]⟩,.string ⟨#[49]⟩] 48)) w.heap.size 48 [.bool false,.string ⟨#[48]⟩,.string ⟨#[49]⟩]):=Bk.new w _ _;have aj:Hid (Below w.heap.size w (w.alloc (.cells #[.bool false,.string ⟨#[48]⟩,.string ⟨#[49]⟩] 48))):=(zI _ w).alloc (zB _) _;have al:Hid (QB (w.alloc (.cells #[.bool false,.string ⟨#[48]⟩,.string ⟨#[49]⟩] 48)) w.heap.size (uq (Cs S ((rows p).take 0)))):=⟨_,_,_,UN,aq.o⟩;clear aq;replace hE:=zh hE;replace hA:=zh hA;replace ai:=zh ai;replace HC:=zh HC;replace hG:=zh hG;have ax:=zh (fun l=>UJ S l);go_enter func89,ntmps89;go_wp2;clear u0 u9
 go_loopw [18] (fun ix wr=>∃(k:Nat),k<=(rows p).length/\ix=.int .i64 (k:Int)/\Hid (Below w.heap.size w wr)/\Hid (QB wr w.heap.size (uq (Cs S ((rows p).take k))))) (fun ix _=>(rows p).length-(intOf ix).toNat)
 case atStart=>exact⟨0,zQ _,rfl,aj,al⟩
 case round=>
  obtain⟨k,hk,rfl,hB,hQ⟩:=hrel;clear aj al;have ar:Hid (Cs S ((rows p).take k)<9223372036854775807):=by have h1:=ax.o ((rows p).take k);have h2:=List.length_take_le k (rows p);show _<_;omega
  by_cases hlt:k<(rows p).length
  .obtain ⟨b,off,rfl,aB,an⟩:=(hA.o.below hB.o) (by omega);obtain⟨e1,e2,e3,e4,e5⟩:=an k hlt;have ao:=ai.o (rows p)[k] (zN hlt);have aa:Hid (Cs S ((rows p).take (k+1))=Cs S ((rows p).take k)+if S (rows p)[k].2.1.toNat=true then unitsN (lkP (rows p)[k]) else 0):=Qc S hlt;obtain⟨x,hx⟩:∃x,x=(rows p)[k]:=⟨_,rfl⟩;rw[<-hx]at e1 e2 e3 e4 e5 ao aa;obtain⟨co,ho,gg,nn,dd⟩:=x;obtain⟨⟨i1,i2⟩,i3⟩:=ao;replace i1:0<=ho:=i1;replace i2:ho<n:=i2;have az:Hid ((.agg #[.bool gg,.string nn,.string dd]:Value)=qv (uq (unitsN (gg,nn,dd)))):=Wi i3;replace aa:Hid (Cs S ((rows p).take (k+1))=Cs S ((rows p).take k)+if S ho.toNat=true then unitsN (gg,nn,dd) else 0):=aa;clear i3;replace e1:wr.cell? ⟨b,off+k*5,none⟩=some (.int .i64 co):=e1;replace e2:wr.cell? ⟨b,off+k*5+1,none⟩=some (.int .i64 ho):=e2;replace e3:wr.cell? ⟨b,off+k*5+2,none⟩=some (.bool gg):=e3;replace e4:wr.cell? ⟨b,off+k*5+3,none⟩=some (.string nn):=e4;replace e5:wr.cell? ⟨b,off+k*5+4,none⟩=some (.string dd):=e5;replace hx:=zh hx;have k0:(0:Int)<=(k:Int):=by omega
   have k1:(k:Int)<((rows p).length:Int):=by omega
   have aA:Hid (Bk (wr.alloc (.cells #[.int .i64 co,.int .i64 ho,.bool gg,.string nn,.string dd] 106)) wr.heap.size 106 [.int .i64 co,.int .i64 ho,.bool gg,.string nn,.string dd]):=Bk.new wr _ _;have ad:=zh (hB.o.alloc hB.o.size (.cells #[.int .i64 co,.int .i64 ho,.bool gg,.string nn,.string dd] 106));have ak:Hid (Below wr.heap.size wr (wr.alloc (.cells #[.int .i64 co,.int .i64 ho,.bool gg,.string nn,.string dd] 106))):=(zI _ wr).alloc (zB _) _;have kc:=HC.o _ ad.o ho i1 i2;clear an
   cases am:S ho.toNat with
   |false=>
    rw[am]at kc aa;replace kc:=zh kc;have ae:Hid (Cs S ((rows p).take (k+1))=Cs S ((rows p).take k)):=aa.o
    go_wp2_with fail
    refine kc.o.q fun w2 hb=>?_;have ab:=ad.t hb;have av:Hid (QB w2 w.heap.size (uq (Cs S ((rows p).take (k+1))))):=by rw[ae.o];exact(hQ.o.below ak.o).below hb
    clear hb e1 e2 e3 e4 e5;go_wp2
    go_roundw
    case rel=>exact⟨k+1,by omega,by go_num,ab,av⟩
    case measure=>simp[intOf];omega
   |true=>
    rw[am]at kc aa;replace kc:=zh kc;have ae:Hid (Cs S ((rows p).take (k+1))=Cs S ((rows p).take k)+unitsN (gg,nn,dd)):=aa.o;have ay:Hid (unitsN (gg,nn,dd)<9223372036854775807):=yA (H6 _) (by decide)
    go_wp2_with fail
    refine kc.o.q fun w2 hb=>?_;have ab:=ad.t hb;obtain⟨g1,n1,d1,af,d⟩:=(hQ.o.below ak.o).below hb;replace d:=zh d;have ag:=zh (aA.o.below hb)
    have kA:Hid (Calls prog 52 #[.agg #[.bool g1,.string n1,.string d1],.agg #[.bool gg,.string nn,.string dd]] w2 fun e w'=>(∃g2 n2 d2,e=.returned (.tuple #[.agg #[.bool g2,.string n2,.string d2],.int .i64 0])/\(.agg #[.bool g2,.string n2,.string d2]:Value)=qv (uq (Cs S ((rows p).take (k+1)))))/\Below w2.heap.size w2 w'):=by
     rw[af,az.o,ae.o];refine(Jl (uq (Cs S ((rows p).take k))) (uq (unitsN (gg,nn,dd))) (EO ar.o) (EO ay.o) w2 (hE.o.below ab.o)).q fun w' hb=>?_;rw[Wh];exact⟨⟨_,_,_,rfl,rfl⟩,hb⟩
    clear hb e1 e2 e3 e4 e5 af;have s0:=d.o.c0;have s1:=d.o.c1;have s2:=d.o.c2;have s9:=d.o.lt;have y2:=ag.o.c2;have y3:=ag.o.c3;have y4:=ag.o.c4;have y9:=ag.o.lt
    go_wp2_with fail
    refine kA.o.mono ?_;rintro e w3 ⟨⟨g2,n2,d2,rfl,ap⟩,hb⟩;have ah:=ab.t hb;have h:=zh (d.o.below hb);clear hb s0 s1 s2 s9 y2 y3 y4 y9;have s0:=h.o.c0;have s1:=h.o.c1;have s2:=h.o.c2;have f0:=h.o.frozen 0;have f1:=h.o.frozen 1;have f2:=h.o.frozen 2;have s9:=h.o.lt;have au:Hid (Below w.heap.size w (((w3.setCell ⟨w.heap.size,0,none⟩ (.bool g2)).setCell ⟨w.heap.size,1,none⟩ (.string n2)).setCell ⟨w.heap.size,2,none⟩ (.string d2))):=((ah.o.setCell (p:=⟨w.heap.size,0,none⟩) (zB _) _).setCell (p:=⟨w.heap.size,1,none⟩) (zB _) _).setCell (p:=⟨w.heap.size,2,none⟩) (zB _) _;have aw:Hid (QB (((w3.setCell ⟨w.heap.size,0,none⟩ (.bool g2)).setCell ⟨w.heap.size,1,none⟩ (.string n2)).setCell ⟨w.heap.size,2,none⟩ (.string d2)) w.heap.size (uq (Cs S ((rows p).take (k+1))))):=⟨g2,n2,d2,ap,((h.o.set 0 (.bool g2)).set 1 (.string n2)).set 2 (.string d2)⟩;clear ap;go_wp2
    go_roundw
    case rel=>exact⟨k+1,by omega,by go_num,au,aw⟩
    case measure=>simp[intOf];omega
  obtain rfl:k=(rows p).length:=by omega
  obtain⟨g1,n1,d1,af,d⟩:=hQ.o;replace d:=zh d
  have kC:Hid (Calls prog 55 #[.agg #[.bool g1,.string n1,.string d1],.agg #[.bool false,.string ⟨#[49]⟩,.string ⟨#[50]⟩]] wr fun e w'=>(∃c:Int,e=.returned (.tuple #[.int .i64 c,.int .i64 0])/\decide (0<c)=decide (3000<Cs S (rows p)))/\Below wr.heap.size wr w'):=by
   rw[af,UM,zn];refine(Fu _ _ (EO (by have:=ar.o;rwa [zn]at this)) (EO (by decide)) wr (hE.o.below hB.o)).q fun w' hb=>?_;exact⟨⟨_,rfl,Tb _⟩,hb⟩
  clear af;have s0:=d.o.c0;have s1:=d.o.c1;have s2:=d.o.c2;have s9:=d.o.lt
  go_wp2_with fail
  refine kC.o.mono ?_;rintro e w3 ⟨⟨c,rfl,hc⟩,hb⟩;have ah:=hB.t hb;replace hc:=zh hc;clear hb s0 s1 s2 s9;go_wp2;go_ret;exact⟨Ad hc.o,ah.o⟩
section
variable {V:List (Nat×Nat×Nat)} {L:List Nat} {n p q k j m:Nat}
noncomputable def cut(V:List (Nat×Nat×Nat))(L:List Nat)(k p:Nat):Int:=if inR V L k p=true then rd V L p else -1
theorem Td:cut V L 0 p=if p∈L then 0 else -1:=by
 unfold cut
 by_cases h:p∈L
 .rw[zD h,zD (show inR V L 0 p=true from zG h)];exact UH.2 h
 rw[zC h,zC (show ¬inR V L 0 p=true by simpa [inR] using h)]
theorem UO:0<=cut V L k p<->inR V L k p=true:=by
 unfold cut
 by_cases h:inR V L k p=true
 .rw[zD h];have:=(BZ.1 h).1;exact⟨fun _=>h,fun _=>this⟩
 rw[zC h];exact⟨fun c=>by omega,fun c=>absurd c h⟩
theorem Vv:(fun q=>decide (0<=cut V L k q))=inR V L k:=by
 funext q
 rw[xX,yU];exact UO
theorem Xn(h0:inR V L k p=false):rd V L p=((k+1:Nat):Int)<->maj V (inR V L k) p=true:=by
 constructor
 .exact UI
 intro h;have h1:inR V L (k+1) p=true:=by rw[DT,h,Bool.or_true]
 have h2:=BZ.1 h1;have h3:¬(0<=rd V L p/\rd V L p<=k):=fun c=>by rw[BZ.2 c]at h0;cases h0
 omega
theorem Xo(h0:inR V L k p=true):rd V L p≠((k+1:Nat):Int):=by
 have:=(BZ.1 h0).2;omega
theorem Te:cut V L (k+1) p=if rd V L p=((k+1:Nat):Int) then ((k+1:Nat):Int) else cut V L k p:=by
 by_cases h:rd V L p=((k+1:Nat):Int)
 .rw[zD h];unfold cut;rw[zD (BZ.2 (by omega)),h]
 rw[zC h];unfold cut
 by_cases h1:inR V L k p=true
 .rw[zD h1,zD (NB h1 (by omega))]
 rw[zC h1,zC];intro c;have h2:=BZ.1 c;have h3:¬(0<=rd V L p/\rd V L p<=k):=fun c=>h1 (BZ.2 c);omega
noncomputable def nx(V:List (Nat×Nat×Nat))(L:List Nat)(k m:Nat):List Nat:=(List.range m).filter fun q=>decide (rd V L q=((k+1:Nat):Int))
theorem Wl(h:rd V L m=((k+1:Nat):Int)):nx V L k (m+1)=nx V L k m++[m]:=by
 unfold nx;rw[xi,yL,zk,zD (zG h)];rfl
theorem Vw(h:rd V L m≠((k+1:Nat):Int)):nx V L k (m+1)=nx V L k m:=by
 unfold nx;rw[xi,yL,zk,zC (by simpa using h)];simp
theorem I4:q∈nx V L k m<->q<m/\rd V L q=((k+1:Nat):Int):=by
 unfold nx;rw[List.mem_filter,List.mem_range,yU]
theorem Wm:(nx V L k m).length<=m:=by
 have:=zr (fun q=>decide (rd V L q=((k+1:Nat):Int))) (List.range m);rw[yZ]at this;exact this
theorem Wn(hV:VIn n V)(h:nx V L k n=[])(hp:p<n):cut V L k p=rd V L p:=by
 have h1:∀p,p<n->inR V L (k+1) p=true->inR V L k p=true:=fun p hp hh=>by
  have h2:=BZ.1 hh
  by_cases c:rd V L p=((k+1:Nat):Int)
  .have:p∈nx V L k n:=I4.2 ⟨hp,c⟩;rw[h]at this
   cases this
  exact BZ.2 (by omega)
 have h3:=O0 hV h1 hp;have h4:=Vt (V:=V) (F:=L) (p:=p);unfold cut
 by_cases c:inR V L k p=true
 .rw[zD c]
 rw[zC c];have h5:¬(0<=rd V L p/\rd V L p<=k):=fun d=>c (BZ.2 d);omega
theorem Xp(hV:VIn n V)(h:nx V L k n≠[]):k+1<=n:=by
 obtain⟨q,hq⟩:=List.exists_mem_of_ne_nil _ h;obtain⟨h1,h2⟩:=I4.1 hq;have:=Xk hV (F:=L) h1;omega
noncomputable def stp(V:List (Nat×Nat×Nat))(L:List Nat)(n k j p:Nat):Int:=if p∈(nx V L k n).take j then ((k+1:Nat):Int) else cut V L k p
theorem Tf:stp V L n k 0 p=cut V L k p:=by unfold stp;simp
theorem Tg(h:(nx V L k n)[j]? = some q)(x:Nat):Ea (stp V L n k j) q ((k+1:Nat):Int) x=stp V L n k (j+1) x:=by
 unfold Ea stp;obtain⟨hk,rfl⟩:=List.getElem?_eq_some_iff.1 h
 have hm:x∈(nx V L k n).take (j+1)<->x∈(nx V L k n).take j\/x=(nx V L k n)[j]:=by
  rw[zO hk,yQ,ym]
 by_cases e:x=(nx V L k n)[j]
 .rw[zD e,zD (hm.2 (.inr e))]
 rw[zC e]
 by_cases e2:x∈(nx V L k n).take j
 .rw[zD e2,zD (hm.2 (.inl e2))]
 rw[zC e2,zC fun c=>(hm.1 c).elim e2 e]
theorem UP(hp:p<n):stp V L n k (nx V L k n).length p=cut V L (k+1) p:=by
 unfold stp;rw[zn,Te]
 by_cases h:rd V L p=((k+1:Nat):Int)
 .rw[zD h,zD (I4.2 ⟨hp,h⟩)]
 rw[zC h,zC fun c=>h (I4.1 c).2]
theorem Wo{s:SR}(h:∀x,x∈s.vot->(0<=x.1/\x.1<s.ps.length)/\(0<=x.2.1/\x.2.1<s.ps.length)/\unitsN (lkP x)≠0):VIn s.ps.length (VT s):=by
 intro y hy;obtain⟨x,hx,rfl⟩:=List.mem_map.1 (show y∈s.vot.map vt from hy);obtain⟨h1,h2,_⟩:=h x hx;exact⟨by show x.1.toNat<_;omega,by show x.2.1.toNat<_;omega⟩
end
end Co
end
section
open Go.RowKit Go.Shelf
namespace Co
open Nt Ci
theorem Th{s:SR}(h:∀x,x∈s.vot->(0<=x.1/\x.1<s.ps.length)/\(0<=x.2.1/\x.2.1<s.ps.length)/\unitsN (lkP x)≠0)(p:Nat):Xm s.ps.length (row s.vot p):=fun x hx=>by
 have:=h x (List.mem_filter.1 hx).1;exact⟨this.2.1,this.2.2⟩
theorem Ti(l:List Lk)(p:Nat):(row l p).length<=l.length:=zr _ _
theorem Qf{s:SR}{xb R b B p:Nat}{v:Nat->Value}{o:Nat->Int}{w:World}(hE:Env w)(hS:SeIn w xb R b B s.ps.length v (row s.vot) o)(hp:p<s.ps.length)(d:Ao s=true)(ab:s.vot.length<=300):
 Calls prog 89 #[.slice (some ⟨R,0,none⟩) s.ps.length s.ps.length,.int .i64 (p:Int),.func (.func 88) #[.pointer (some ⟨xb,0,none⟩)] #[]] w fun e w'=>e=.returned (.bool (maj (VT s) (fun q=>decide (0<=o q)) p))/\Below w.heap.size w w':=by
 have aa:=K9 d;have h:=GD d;have hl:=Ti s.vot p;rw[UK (fun x hx=>(h x hx).1.1)]
 exact KB xb R B s.ps.length p v (row s.vot) (fun q=>decide (0<=o q)) w hE hS.g hp (by omega) (by omega) (Th h p) fun W hW q h0 h1=>by
  obtain⟨m,rfl⟩:∃m:Nat,q=(m:Int):=⟨q.toNat,by omega⟩;refine(found_any xb R b B s.ps.length m v (row s.vot) o W (hS.below hW) (by omega) (by omega)).mono ?_;rintro e w' ⟨rfl,rfl⟩;exact⟨by simp,zI _ _⟩
theorem UQ(s:SR)(xb b:Nat)(L:List Nat)(w0 w:World)(hE:Env w0)(ai:Below w0.heap.size w0 w)(ah:Ao s=true)(a3:s.vot.length<=300)(aY:Se s w0.heap.size w xb b (fun x=>if x∈L then 0 else -1)):
 Calls prog 41 #[.pointer (some ⟨xb,0,none⟩)] w fun e w'=>e=.returned (.tuple #[])/\Se s w0.heap.size w' xb b (rd (VT s) L)/\Below w0.heap.size w0 w':=by
 obtain⟨R,B,v,ap,aQ,ao⟩:=aY;have a5:=K9 ah;have hV:Hid (VIn s.ps.length (VT s)):=Wo (GD ah);have aG:Hid (SeIn w xb R b B s.ps.length v (row s.vot) (cut (VT s) L 0)):=ao.congr fun x _=>Td.symm;have aZ:Hid (w0.heap.size<=b):=zS ap ao.lb;have aK:Hid (∀W,SeIn W xb R b B s.ps.length v (row s.vot) (rd (VT s) L)->Se s w0.heap.size W xb b (rd (VT s) L)):=fun W h=>⟨R,B,v,ap,aQ,h⟩
 have kmaj:Hid (∀k W p,p<s.ps.length->Below w0.heap.size w0 W->SeIn W xb R b B s.ps.length v (row s.vot) (cut (VT s) L k)->Calls prog 89 #[.slice (some ⟨R,0,none⟩) s.ps.length s.ps.length,.int .i64 (p:Int),.func (.func 88) #[.pointer (some ⟨xb,0,none⟩)] #[]] W fun e w'=>e=.returned (.bool (maj (VT s) (inR (VT s) L k) p))/\Below W.heap.size W w'):=fun k W p hp hW hS=>by
  have h:=Qf (hE.below hW) hS hp ah a3;rw[Vv]at h;exact h
 have kfound:Hid (∀k W p,p<s.ps.length->SeIn W xb R b B s.ps.length v (row s.vot) (cut (VT s) L k)->Calls prog 88 #[.pointer (some ⟨xb,0,none⟩),.int .i64 (p:Int)] W fun e w'=>e=.returned (.bool (inR (VT s) L k p))/\w'=W):=fun k W p hp hS=>by
  have h:=found_any xb R b B s.ps.length p v (row s.vot) _ W hS hp (by omega);have e:decide (0<=cut (VT s) L k p)=inR (VT s) L k p:=congrFun Vv p;rw[e]at h;exact h
 obtain⟨i0,ar,aR⟩:=Option.map_eq_some_iff.1 Sk;simp only[Prod.mk.injEq]at aR;obtain⟨az,aA,aB⟩:=aR;replace ar:=zh ar;replace az:=zh az;replace aA:=zh aA;replace aB:=zh aB;replace ai:=zh ai;replace ah:=zh ah;clear ao hE ap aQ;go_enter func41,ntmps41;go_wp2
 go_loopw [2] (fun kv wr=>∃(k:Nat),k<=s.ps.length/\kv=.int .i64 ((k:Int)+1)/\Hid (Below w0.heap.size w0 wr)/\Hid (SeIn wr xb R b B s.ps.length v (row s.vot) (cut (VT s) L k))) (fun kv _=>s.ps.length+2-(intOf kv).toNat)
 case atStart=>exact⟨0,zQ _,by go_num,ai,aG⟩
 case round=>
  obtain⟨k,hk,rfl,aC,aj⟩:=hrel;obtain⟨wo,rfl⟩:∃z,z=wr:=⟨_,rfl⟩;clear ai aG;have x0:=aj.o.x.c1;have x9:=aj.o.x.lt;go_wp2;clear x0 x9;have aF:Hid (wo.ownsRow wo.heap.size 3 1 (.slice none 0 0) 0 (Bw (nx (VT s) L k 0))):=yO _ _ _ _
  go_loopw [3,14] (fun nv ix wz=>∃(i m c:Nat)(A:Option Addr),i<=s.ps.length/\m=(nx (VT s) L k i).length/\nv=.slice A m c/\ix=.int .i64 (i:Int)/\Hid (Kp [] wo wz)/\Hid (wz.ownsRow wo.heap.size 3 1 (.slice A m c) m (Bw (nx (VT s) L k i)))) (fun _ ix _=>s.ps.length-(intOf ix).toNat)
  case atStart=>exact⟨0,0,0,none,zQ _,rfl,rfl,rfl,Kp.refl _ _,aF⟩
  case round=>
   obtain⟨i,m,c,A,hi,hm,rfl,rfl,hK,hO⟩:=hrel;obtain⟨wz,rfl⟩:∃z,z=wr:=⟨_,rfl⟩;clear aF;have al:Hid (Below w0.heap.size w0 wz):=aC.o.trans ((hK.o.to_below (zI _ wo) fun x hx=>by simp at hx).mono aC.o.size);have ad:Hid (SeIn wz xb R b B s.ps.length v (row s.vot) (cut (VT s) L k)):=aj.o.below (hK.o.to_below (zI _ wo) fun x hx=>by simp at hx);have a8:m<=i:=by rw[hm];exact Wm
   replace hm:=zh hm
   by_cases hin:i<s.ps.length
   .have j0:(0:Int)<=(i:Int):=by omega
    have j1:(i:Int)<(s.ps.length:Int):=by omega
    have kf:=kfound.o k wz i hin ad.o
    cases hc:inR (VT s) L k i with
    |true=>
     rw[hc]at kf;replace kf:=zh kf;have d:Hid (nx (VT s) L k (i+1)=nx (VT s) L k i):=Vw (Xo hc);have af:Hid (m=(nx (VT s) L k (i+1)).length):=by rw[d.o];exact hm.o
     have an:Hid (wz.ownsRow wo.heap.size 3 1 (.slice A m c) m (Bw (nx (VT s) L k (i+1)))):=by rw[d.o];exact hO.o
     clear hc
     go_wp2_with fail
     refine kf.o.mono ?_;rintro e wq ⟨rfl,rfl⟩;go_wp2;exact⟨⟨i+1,m,c,A,by omega,af.o,rfl,by go_num,hK,an⟩,by simp only[intOf];omega⟩
    |false=>
     rw[hc]at kf;replace kf:=zh kf;have km:=kmaj.o k wz i hin al.o ad.o;have x0:=ad.o.x.c0;have x9:=ad.o.x.lt;have ak:=Xn hc;clear hc
     cases ab:maj (VT s) (inR (VT s) L k) i with
     |false=>
      rw[ab]at km;replace km:=zh km;have d:Hid (nx (VT s) L k (i+1)=nx (VT s) L k i):=Vw fun h=>by rw[ak.1 h]at ab;cases ab
      have af:Hid (m=(nx (VT s) L k (i+1)).length):=by rw[d.o];exact hm.o
      clear ak ab
      go_wp2_with fail
      refine kf.o.mono ?_;rintro e wq ⟨rfl,rfl⟩
      go_wp2_with fail
      refine km.o.q fun wq hb=>?_;have an:Hid (wq.ownsRow wo.heap.size 3 1 (.slice A m c) m (Bw (nx (VT s) L k (i+1)))):=by rw[d.o];exact AC hO.o hb
      have aU:=zh (hK.o.below hb);clear hb x0 x9;go_wp2;exact⟨⟨i+1,m,c,A,by omega,af.o,rfl,by go_num,aU,an⟩,by simp only[intOf];omega⟩
     |true=>
      rw[ab]at km;replace km:=zh km;have d:Hid (nx (VT s) L k (i+1)=nx (VT s) L k i++[i]):=Wl (ak.2 ab);have af:Hid (m+1=(nx (VT s) L k (i+1)).length):=by show m+1=_;rw[d.o,zV,xU,<-hm.o]
      clear ak ab
      go_wp2_with fail
      refine kf.o.mono ?_;rintro e wq ⟨rfl,rfl⟩
      go_wp2_with fail
      refine km.o.q fun wq hb=>?_;have aW:=zh (AC hO.o hb);have aT:=zh (hK.o.below hb);clear hb x0 x9;have aX:=zh (AC aW.o ((zI _ wq).alloc (zB _) (.cells #[.int .i64 (i:Int)] 3)));have aE:=zh (aT.o.alloc (.cells #[.int .i64 (i:Int)] 3));have aJ:Hid (wo.heap.size<=(wq.alloc (.cells #[.int .i64 (i:Int)] 3)).heap.size):=aE.o.size;have aI:Hid (∀j u,[(Value.int .i64 (i:Int))][j]? = some u->(wq.alloc (.cells #[.int .i64 (i:Int)] 3)).cell? (Addr.add ⟨wq.heap.size,0,none⟩ j)=some u):=Ci.BH wq _ _;have aP:Hid (Bw (nx (VT s) L k i)++[.int .i64 (i:Int)]=Bw (nx (VT s) L k (i+1))):=by rw[d.o];exact(Ei _ _).symm
      have ax:Hid (∀b,(Value.slice A m c).ownBlock=some b->b∈([]:List Nat)\/wo.heap.size<=b):=fun b e=>.inr (hO.o.lt b e).1
      go_wp2_with (at_builtin;refine Ci.wpList_append_new _ rfl _ _ 37 rfl wo.heap.size 3 i0 (.int .i64 0) 1 8 underlying37 ar.o az.o aA.o aB.o rfl (by decide) (.slice A m c) m _ rfl aX.o ⟨wq.heap.size,0,none⟩ 1 1 [.int .i64 (i:Int)] rfl rfl aI.o (Ci.AM _ rfl) (by decide) (by unfold maxLen;omega) (by omega) aJ.o ?_;intro a9 ba ag aL a2;obtain⟨A7,c7,rfl⟩:=Ci.CK ag;rw[aP.o]at ag;have a0:=zh (aE.o.grown aL ax.o);replace ag:=zh ag;clear aL a2)
      exact⟨⟨i+1,m+1,c7,A7,by omega,af.o,rfl,by go_num,a0,ag⟩,by simp only[intOf];omega⟩
   obtain rfl:i=s.ps.length:=by omega
   clear kfound kmaj
   by_cases hnil:nx (VT s) L k s.ps.length=[]
   .obtain rfl:m=0:=by rw[hm.o,hnil];rfl
    have ae:Hid (Se s w0.heap.size wz xb b (rd (VT s) L)):=aK.o _ (ad.o.congr fun x hx=>Wn hV.o hnil hx);clear hnil hm hO;go_wp2;refine zm (results_none rfl _ _ _) rfl ?_;exact⟨rfl,ae.o,al.o⟩
   have a1:=Xp hV.o hnil;have a7:0<m:=by rw[hm.o];exact List.length_pos_iff.2 hnil
   have t1:((m:Int)==0)=false:=by rw[zP];omega
   have t2:(m==0)=false:=by rw[zP];omega
   have av:=hO.o;rw[hm.o]at av
   rcases Dp av with⟨_,h0⟩|⟨g,cap,hA,a6,aN,_,aq⟩
   .exact absurd h0 hnil
   rw[<-hm.o]at hA;simp only[Value.slice.injEq]at hA;obtain⟨rfl,_,rfl⟩:=hA;have aM:Hid (g≠b):=fun e=>by have:=aj.o.r.lt;omega
   replace aq:=zh aq;replace hnil:=zh hnil;clear av hO;have aH:Hid (SeIn wz xb R b B s.ps.length v (row s.vot) (stp (VT s) L s.ps.length k 0)):=ad.o.congr fun x _=>Tf.symm;go_wp2
   go_loopw [41] (fun jx wy=>∃(j:Nat),j<=m/\jx=.int .i64 (j:Int)/\Hid (Kp [b] wz wy)/\Hid (Below w0.heap.size w0 wy)/\Hid (SeIn wy xb R b B s.ps.length v (row s.vot) (stp (VT s) L s.ps.length k j))) (fun jx _=>m-(intOf jx).toNat)
   case atStart=>exact⟨0,zQ _,rfl,Kp.refl _ _,al,aH⟩
   case round=>
    obtain⟨j,hj,rfl,am,aD,aa⟩:=hrel;obtain⟨wy,rfl⟩:∃z,z=wr:=⟨_,rfl⟩;clear aH
    by_cases hjl:j<m
    .have au:j<(nx (VT s) L k s.ps.length).length:=by rw[<-hm.o];exact hjl
     have hq:=I4.1 (zN au);have e1:wy.cell? ⟨g,j,none⟩=some (.int .i64 ((nx (VT s) L k s.ps.length)[j]:Int)):=(zT (a:=⟨g,j,none⟩) (am.o.block g aN (by simpa using aM.o))).trans (aq.o j au);have a4:g<wy.heap.size:=zJ aN am.o.size;have ay:Hid (∀x,Ea (stp (VT s) L s.ps.length k j) (nx (VT s) L k s.ps.length)[j] ((k+1:Nat):Int) x=stp (VT s) L s.ps.length k (j+1) x):=fun x=>Tg (zj au) x;obtain⟨q,aw⟩:∃q,q=(nx (VT s) L k s.ps.length)[j]:=⟨_,rfl⟩;rw[<-aw]at hq e1 ay;replace aw:=zh aw;have aO:=hq.1;have j0:(0:Int)<=(j:Int):=by omega
     have j1:(j:Int)<(m:Int):=by omega
     have q0:(0:Int)<=(q:Int):=by omega
     have q1:(q:Int)<(s.ps.length:Int):=by omega
     have x0:=aa.o.x.c1;have x9:=aa.o.x.lt;have r0:=aa.o.r.cell q aO;have r1:=aa.o.r.fr q;have r9:=aa.o.r.lt;have ae:Hid (SeIn (wy.setCell ⟨b,q,none⟩ (.int .i64 ((k:Int)+1))) xb R b B s.ps.length v (row s.vot) (stp (VT s) L s.ps.length k (j+1))):=(aa.o.set aO ((k:Int)+1)).congr fun x _=>ay.o x;have aS:Hid (Below w0.heap.size w0 (wy.setCell ⟨b,q,none⟩ (.int .i64 ((k:Int)+1)))):=aD.o.setCell (p:=⟨b,q,none⟩) aZ.o _;have aV:Hid (Kp [b] wz (wy.setCell ⟨b,q,none⟩ (.int .i64 ((k:Int)+1)))):=am.o.set _ (.inl (by simp));clear ay hq;go_wp2;exact⟨⟨j+1,by omega,by go_num,aV,aS,ae⟩,by simp only[intOf];omega⟩
    obtain rfl:j=m:=by omega
    have ae:Hid (SeIn wy xb R b B s.ps.length v (row s.vot) (cut (VT s) L (k+1))):=aa.o.congr fun x hx=>by rw[hm.o];exact UP hx
    go_wp2;exact⟨⟨k+1,a1,by go_num,aD,ae⟩,by simp only[intOf];omega⟩
end Co
end
end Go.Proofs.YtefmpngjjmddjaaGreatDoor

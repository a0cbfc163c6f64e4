/- Texts that the proof needs: CirParts, ShaEffQ, ShaProper, ShaEff, ShaHeadP, ShaLaw3, BndHeadP, BndSame, BndAB, BndHead, BndHeadC, BndHeadW, CirFew. -/
import Derived.Test.YtmfjbpcecpgchaaGreatDoorKeF
set_option maxHeartbeats 64000000
set_option maxRecDepth 100000
namespace Go.Proofs.YtmfjbpcecpgchaaGreatDoor
section
open Go.RowKit Go.Shelf
namespace Ci
open Nt
open Classical
noncomputable def DY(s:SR):List (List Int):=(Aq s.ps.length (Ad s)).map fun l=>l.map fun(q:Nat)=>(q:Int)
def Nq(s:SR)(w:World)(e:Ending)(w':World):Prop :=
 (if As s=true then ∃A c l,e=.returned (.tuple #[.slice A l.length c,.int .i64 0])/\SH w' A l/\bare l=DY s
   else e=.returned (.tuple #[.slice none 0 0,.int .i64 1]))/\Below w.heap.size w w'
theorem I5(s:SR)(Ap Ac Av:Option Addr)(cp cc cv:Nat)(w:World)(hE:Env w)(hs:StIn w s Ap Ac Av)(co:s.cap.length<=300):
 Calls Tryz.prog 41 #[.agg #[.slice Ap s.ps.length cp,.slice Ac s.cap.length cc,.slice Av s.vot.length cv]] w (Nq s w):=by
 have au:Hid (Bk (w.alloc (.cells #[.slice Ap s.ps.length cp,.slice Ac s.cap.length cc,.slice Av s.vot.length cv] 25)) w.heap.size 25 (SC s Ap Ac Av cp cc cv)):=Bk.new w _ _;have an:Hid (Below w.heap.size w (w.alloc (.cells #[.slice Ap s.ps.length cp,.slice Ac s.cap.length cc,.slice Av s.vot.length cv] 25))):=(zI _ w).alloc (zA _) _;have b5:=@run_makeMap Tryz.prog;have u0:=au.o.c0;have u1:=au.o.c1;have u2:=au.o.c2;have u9:=au.o.lt;obtain⟨wa,bG⟩:∃x,x=w.alloc (.cells #[.slice Ap s.ps.length cp,.slice Ac s.cap.length cc,.slice Av s.vot.length cv] 25):=⟨_,rfl⟩;have ks:=Ef s Ap Ac Av cp cc cv (w.alloc (.cells #[.slice Ap s.ps.length cp,.slice Ac s.cap.length cc,.slice Av s.vot.length cv] 25)) (hE.below an.o) (hs.below an.o);have ca:(w.alloc (.cells #[.slice Ap s.ps.length cp,.slice Ac s.cap.length cc,.slice Av s.vot.length cv] 25)).heap.size=w.heap.size+1:=by simp
 rw[<-bG]at au an u0 u1 u2 u9 ks ca
 cases am:As s with
 |false=>
  have bL:Hid (∀e w',e=.returned (.tuple #[.slice none 0 0,.int .i64 1])->Below w.heap.size w w'->Nq s w e w'):=fun e w' h2 h3=>⟨by rw[zF (by rw[am];simp)];exact h2,h3⟩;rw[am]at ks;replace ks:=zh ks;replace hs:=zh hs;clear b5;subst bG;go_enter Tryz.func41,Tryz.ntmps41
  go_wp2_with fail
  refine ks.o.mono ?_;rintro e w2 ⟨rfl,hb⟩;have aB:=zh (an.o.trans (hb.mono an.o.size));clear hb;go_wp2;go_ret2;exact bL.o _ _ rfl aB.o
 |true=>
  have cG:s.ps.length<=60:=by
   have h:=am;unfold As at h;simp only[yI,yV]at h;exact h.2.1
  have cq:Hid (∀x,x∈s.cap->(0<=x.1/\x.1<s.ps.length)/\(0<=x.2.1/\x.2.1<s.ps.length)):=fun x hx=>by
   have h:=am;unfold As at h;simp only[yI]at h;obtain⟨i,hi,rfl⟩:=zo hx;exact⟨(Ex h.2.2.1 hi).1.1,(Ex h.2.2.1 hi).1.2.1⟩
  have aa:=zh (Ic am);have bp:Hid (∀e w' A c k l,e=.returned (.tuple #[.slice A k c,.int .i64 0])->k=List.length l->SH w' A l->bare l=DY s->Below w.heap.size w w'->Nq s w e w'):=fun e w' A c k l h1 hk h2 h3 h4=>⟨by rw[zG am];exact⟨A,c,l,by rw[<-hk];exact h1,h2,h3⟩,h4⟩;rw[am]at ks;replace ks:=zh ks;replace hs:=zh hs;replace am:=zh am;have cx:=wV (P:=Tryz.prog) 26 3 (.int .i64 0) 8 Tryz.underlying26 I3 rfl .i64 .i64 s.ps.length (by omega) (by omega);have bB:=zh (fun w2 h=>Sf s Ap Ac Av cp cc cv w2 h (by omega) co cq.o)
  have bt:Hid (∀p,(C5 (Ad s) (Ad s).length p).length<=300):=fun p=>by
   unfold C5;rw[zU];have h1:=yS (fun x:Nat×Nat=>decide (x.1=p)) ((Ad s).take (Ad s).length);have h2:((Ad s).take (Ad s).length).length<=(Ad s).length:=List.length_take_le' _ _;have h3:(Ad s).length=s.cap.length:=by simp[Ad]
   omega
  have aj:Hid (∀p q,q∈C5 (Ad s) (Ad s).length p<->(p,q)∈Ad s):=fun _ _=>Lq
  have bd:Hid (DY s=(ords s.ps.length (Ad s)).map fun p=>(CX s.ps.length (Ad s) p).map fun(q:Nat)=>(q:Int)):=by
   unfold Hid DY Aq;rw[xh];rfl
  obtain⟨E,bM⟩:∃E,E=Ad s:=⟨_,rfl⟩;obtain⟨adj,aK⟩:∃a,a=C5 (Ad s) (Ad s).length:=⟨_,rfl⟩;rw[<-aK]at bB bt aj;rw[<-bM]at aa aj bd;clear bM aK;obtain⟨i0,bx,cg⟩:=Option.map_eq_some_iff.1 I3;simp only[Prod.mk.injEq]at cg;obtain⟨aF,bH,ay⟩:=cg;replace bx:=zh bx;replace aF:=zh aF;replace bH:=zh bH;replace ay:=zh ay;subst bG;go_enter Tryz.func41,Tryz.ntmps41
  go_wp2_with fail
  refine ks.o.mono ?_;rintro e w2 ⟨rfl,hb⟩;have aB:=zh (an.o.trans (hb.mono an.o.size));have aJ:=zh (au.o.below hb);have kg:=zh (bB.o w2 (hs.o.below aB.o));clear hb ks an au u0 u1 u2 u9 bB;have u0:=aJ.o.c0;have u1:=aJ.o.c1;have u2:=aJ.o.c2;have u9:=aJ.o.lt
  go_wp2_with fail
  refine kg.o.mono ?_;rintro e w3 ⟨⟨R,vg,rfl,hG⟩,hb⟩;have bk:=zh (aB.o.trans (hb.mono aB.o.size));clear hb kg aB aJ u0 u1 u2 u9;have kt:=zh (Na R s.ps.length w2.heap.size vg adj w3 (by omega) (fun p _=>by have:=bt.o p;omega) (fun p q _ h=>(aa.o _ ((aj.o p q).1 h)).2) hG);replace hG:=zh hG
  go_wp2_with fail
  refine kt.o.mono ?_;rintro e w4 ⟨⟨R2,vb,T,rfl,aD,hT⟩,hb⟩;have aC:=zh (bk.o.trans (hb.mono bk.o.size));have aU:=zh (hG.o.below hb)
  have bS:Hid (∀p q,p<s.ps.length->(q∈T p<->(p,q)∈L6 E)):=fun p q hp=>by
   rw[hT.1 p q hp,EX,<-aj.o];constructor
   .rintro(⟨_,h⟩|⟨_,h⟩)
    .exact h
    simp at h
   intro h;exact .inl ⟨(aa.o _ ((aj.o q p).1 h)).1,h⟩
  have bR:Hid (∀p,(T p).length<=60000):=fun p=>by have:=hT.2 p;omega
  replace aD:=zh aD;clear hb kt bk hG hT;have aW:=zh (P1.start E s.ps.length w4 3);have bm:Hid (Below w.heap.size w (((w4.alloc (.map #[] 0)).alloc (.cells (madeCells #[.int .i64 0] s.ps.length) 3)).alloc (.map #[] 0))):=((aC.o.alloc aC.o.size _).alloc (by have:=aC.o.size;simp;omega) _).alloc (by have:=aC.o.size;simp;omega) _;have bn:Hid (Below w4.heap.size w4 (((w4.alloc (.map #[] 0)).alloc (.cells (madeCells #[.int .i64 0] s.ps.length) 3)).alloc (.map #[] 0))):=(((zI _ w4).alloc (zA _) _).alloc (by simp) _).alloc (by simp<;>omega) _;have ae:Hid ((((w4.alloc (.map #[] 0)).alloc (.cells (madeCells #[.int .i64 0] s.ps.length) 3)).alloc (.map #[] 0)).heap.size=w4.heap.size+3):=by unfold Hid;simp
  have ah:Hid (R<w4.heap.size/\R2<w4.heap.size/\(∀i b,i<s.ps.length->(vg i).ownBlock=some b->b<w4.heap.size)/\(∀i b,i<s.ps.length->(vb i).ownBlock=some b->b<w4.heap.size)) :=
   ⟨aU.o.lt,aD.o.lt,fun i b hi e=>((aU.o.rows i hi).lt b e).2,fun i b hi e=>((aD.o.rows i hi).lt b e).2⟩
  have bo:=zh (aU.o.below bn.o);have aV:=zh (aD.o.below bn.o);have cm:w.heap.size<=w4.heap.size:=aC.o.size;go_wp2;obtain⟨w0,ce⟩:∃x,x=(((w4.alloc (.map #[] 0)).alloc (.cells (madeCells #[.int .i64 0] s.ps.length) 3)).alloc (.map #[] 0)):=⟨_,rfl⟩;rw[<-ce]at aW bm ae bo aV ⊢;obtain⟨S,hS⟩:∃x,x=w4.heap.size:=⟨_,rfl⟩;rw[<-hS]at aW ae ah cm ⊢;clear cx b5 bn aU aD ce hS aC
  go_loopw [37] (fun ix wr=>∃(p:Nat)(v:Nat->Value)(F:Nat->Int),p<=s.ps.length/\ix=.int .i64 (p:Int)/\Hid (P1 E s.ps.length w0 S p 0 v F wr)) (fun ix _=>s.ps.length-(intOf ix).toNat)
  case atStart=>exact⟨0,_,_,zP _,rfl,aW⟩
  case round=>
   obtain⟨p,v,F,hp,rfl,hP⟩:=hrel;clear aW
   by_cases hpn:p<s.ps.length
   .have ai:=hP.o.look hpn (by omega);have p0:(0:Int)<=(p:Int):=by omega
    have p1:(p:Int)<(s.ps.length:Int):=by omega
    by_cases hfp:fst E p=p
    .rw [Cb (fun c=>c hfp)]at ai;have ak:=bo.o.kp hP.o.kp (by have:=ah.o.1;simp;omega) (fun i b hi e=>by have:=ah.o.2.2.1 i b hi e;simp;omega);have k1:=zh (Ha E R s.ps.length _ p vg adj wr (by omega) (fun x q _=>aj.o x q) aa.o (fun x _=>by have:=bt.o x;omega) hpn ak);replace hfp:=zh hfp;clear ak
     go_wp2_with fail
     refine k1.o.mono ?_;rintro e w5 ⟨⟨m1,rfl,cu,az⟩,hb⟩;have aX:=zh (hP.o.below hb);have cE:S+3<=m1:=by have:=hP.o.kp.size;have:=ae.o;omega
     clear hb cu hP k1 ai;have ak:=aV.o.kp aX.o.kp (by have:=ah.o.2.1;simp;omega) (fun i b hi e=>by have:=ah.o.2.2.2 i b hi e;simp;omega);have k2:=zh (Ha (L6 E) R2 s.ps.length _ p vb T w5 (by omega) (fun x q hx=>bS.o x q hx) (Ut aa.o) (fun x _=>by have:=bR.o x;omega) hpn ak);replace az:=zh az;clear ak
     go_wp2_with fail
     refine k2.o.mono ?_;rintro e w6 ⟨⟨m2,rfl,cw,aI⟩,hb⟩;have br:=zh (aX.o.below hb);have bs:=zh (az.o.below hb);have cF:S+3<=m2:=by have:=aX.o.kp.size;have:=ae.o;omega
     replace aI:=zh aI;clear hb cw aX az k2
     have cd:Hid (∀b,(v p).ownBlock=some b->w6.heap.size<=b):=fun b e=>by
      rw[br.o.lm.nil p hpn (by unfold lsQ;rw[zG rfl,J5])]at e
      cases e
     have bP:Hid (Kp [S,S+1,S+1+1] w6 w6):=Kp.refl _ _;go_wp2
     go_loopw [51] (fun ix wz=>∃(q:Nat)(v2:Nat->Value)(F2:Nat->Int),q<=s.ps.length/\ix=.int .i64 (q:Int)/\Hid (P1 E s.ps.length w0 S p q v2 F2 wz)/\Hid (Kp [S,S+1,S+1+1] w6 wz)/\Hid (∀b,(v2 p).ownBlock=some b->w6.heap.size<=b)) (fun ix _=>s.ps.length-(intOf ix).toNat)
     case atStart=>exact⟨0,v,F,zP _,rfl,br,bP,cd⟩
     case round=>
      obtain⟨q,v2,F2,hq,rfl,hP,hK,hv⟩:=hrel;clear br bP cd
      by_cases al:q<s.ps.length
      .have bz:=(bs.o.kp hK.o (by simp;omega)).look al (by omega);have bA:=(aI.o.kp hK.o (by simp;omega)).look al (by omega);have q0:(0:Int)<=(q:Int):=by omega
       have q1:(q:Int)<(s.ps.length:Int):=by omega
       by_cases hr1:Reach E p q
       .rw [C6 hr1]at bz
        by_cases hr2:Reach E q p
        .rw [C6 (J4.2 hr2)]at bA;obtain⟨W1,cz,_,aY,ax⟩:=hP.o.step ae.o ⟨hr1,hr2⟩ hpn al (by omega) hfp.o;obtain⟨ao,cb,be⟩:=ax _ rfl;obtain⟨d,aA⟩:=be _ rfl;have c1:=aY.cell q al;have c2:=aY.fr q;have c3:=aY.lt
         have had:Hid (∀j u,[(Value.int .i64 (q:Int))][j]? = some u->((W1.setCell ⟨S+1,q,none⟩ (.int .i64 (p:Int))).alloc (.cells #[.int .i64 (q:Int)] 3)).cell? (Addr.add ⟨W1.heap.size,0,none⟩ j)=some u):=by
          have h:=AX (W1.setCell ⟨S+1,q,none⟩ (.int .i64 (p:Int))) (.int .i64 (q:Int)) 3
          rwa [World.size_setCell]at h
         have b4:Hid ((lsQ E s.ps.length p q p).length<=100):=by
          unfold Hid lsQ;rw[zG rfl];unfold Ai;have h:=yS (fun y=>decide (Mut E p y)) (List.range q);rw[yZ]at h;omega
         have cn:Hid (w0.heap.size<=((W1.setCell ⟨S+1,q,none⟩ (.int .i64 (p:Int))).alloc (.cells #[.int .i64 (q:Int)] 3)).heap.size):=by
          have h1:=hP.o.kp.size;unfold Hid;rw[zK];omega
         obtain⟨vp,ag⟩:∃x,x=v2 p:=⟨_,rfl⟩;rw[<-ag]at ao d aA;rw[<-ag]at hv;replace ag:=zh ag;replace d:=zh d;replace aA:=zh aA;clear hP ax be aY hr1 hr2 cb
         go_wp2_with (at_builtin;refine wpList_append_new _ rfl _ _ 26 rfl w0.heap.size 3 i0 (.int .i64 0) 1 8 Tryz.underlying26 bx.o aF.o bH.o ay.o rfl (by decide) vp _ _ rfl d.o ⟨W1.heap.size,0,none⟩ 1 1 [.int .i64 (q:Int)] rfl rfl had.o (A7 _ rfl) (by decide) (by have:=b4.o;unfold maxLen;omega) (by have:=b4.o;omega) cn.o ?_;intro bJ bK aE aN a3;obtain⟨W4,bD,ar,bO⟩:=aA.o bJ bK aE aN (by simpa using a3);obtain⟨bq,bE⟩:=bO w6 hK.o hv.o;replace ar:=zh ar;replace bq:=zh bq;replace bE:=zh bE;clear aE aN a3 bO)
         exact⟨⟨q+1,_,_,by omega,by go_num,ar,bq,fun b e=>bE.o b (by simpa using e)⟩,by simp only[intOf];omega⟩
        rw[Cb (fun c=>hr2 (J4.1 c))]at bA;have aq:=zh (hP.o.skip fun c=>hr2 c.2);clear hP hr1 hr2;go_wp2;exact⟨⟨q+1,v2,F2,by omega,by go_num,aq,hK,hv⟩,by simp only[intOf];omega⟩
       rw[Cb hr1]at bz;have aq:=zh (hP.o.skip fun c=>hr1 c.1);clear hP hr1 bA;go_wp2;exact⟨⟨q+1,v2,F2,by omega,by go_num,aq,hK,hv⟩,by simp only[intOf];omega⟩
      obtain rfl:q=s.ps.length:=by omega
      have aq:=zh (hP.o.next hfp.o hpn (by omega));clear hP;go_wp2;exact⟨⟨p+1,v2,F2,by omega,by go_num,aq⟩,by simp only[intOf];omega⟩
    rw[C6 hfp]at ai;have aq:=zh (hP.o.had hfp);clear hfp hP;go_wp2;exact⟨⟨p+1,v,F,by omega,by go_num,aq⟩,by simp only[intOf];omega⟩
   obtain rfl:p=s.ps.length:=by omega
   obtain⟨w7,cA⟩:∃x,x=wr:=⟨_,rfl⟩;subst cA;have bQ:=zh (P2.start hP.o aa.o);have hF:Hid (∀x,x<s.ps.length->F x=(fst E x:Int)):=fun x hx=>hP.o.fs x hx (VE hx);have a5:=zh hP.o.ro
   have aw:Hid (∀x,x∈leasts s.ps.length E->w7.ownsRow w0.heap.size 3 1 (v x) (CX s.ps.length E x).length (Ca (CX s.ps.length E x))):=fun x hx=>by
    have cf:=(B4.1 hx).1;have h:=hP.o.lm.rows x cf
    rwa [Eo,Ov cf,zG hx]at h
   have bN:=zh (aV.o.kp hP.o.kp (by have:=ah.o.2.1;simp;omega) (fun i b hi e=>by have:=ah.o.2.2.2 i b hi e;simp;omega));have ch:Hid (Below w.heap.size w w7):=hP.o.kp.to_below bm.o fun x hx=>by simp at hx;omega
   have cl:S<w7.heap.size:=by have:=hP.o.kp.size;have:=ae.o;omega
   have af:Hid (R2∉[S]/\(∀i b,i<s.ps.length->(vb i).ownBlock=some b->b∉[S])/\S+1∉[S]/\∀x b,x∈leasts s.ps.length E->(v x).ownBlock=some b->b∉[S]):=by
    refine⟨by have:=ah.o.2.1;simp;omega,fun i b hi e=>by have:=ah.o.2.2.2 i b hi e;simp;omega,by simp,fun x b hx e=>?_⟩;have h1:=((aw.o x hx).lt b e).1;have h2:=ae.o;simp;omega
   clear hP aV bo ah bm ae;go_wp2
   go_loopg [13] (leasts s.ps.length E).length (fun m u wz=>∃(A:Option Addr)(c:Nat)(pre left:List Nat),m=left.length/\u=.slice A pre.length c/\Hid (P2 E s.ps.length w7 S v pre left (.slice A pre.length c) wz))
   case atStart=>exact⟨none,0,[],_,rfl,rfl,bQ⟩
   case round=>
    obtain⟨A,c,pre,left,hm,rfl,hP⟩:=hrel;clear bQ;have b2:=hP.o.len 3
    by_cases hl0:left=[]
    .subst hl0;have b7:Hid (ords s.ps.length E=pre):=hP.o.st.end
     have ad:Hid (∀x,x∈pre->x∈leasts s.ps.length E):=fun x hx=>by
      have:=hP.o.st.had x hx;exact B4.2 ⟨this.1,this.2.1⟩
     have ck:=zh (SI (E:=E) (n:=s.ps.length) (by omega) hP.o.o fun p hp=>Sj (aw.o p (ad.o p hp)) hP.o.kp fun b e=>af.o.2.2.2 p b (ad.o p hp) e);have ci:Hid (Below w.heap.size w wr):=hP.o.kp.to_below ch.o fun x hx=>by simp at hx;omega
     have ct:Hid (pre.length=(AO E s.ps.length v pre).length):=by unfold Hid AO;simp
     clear hm hP;go_wp2;go_ret2;exact bp.o _ _ A c _ _ rfl ct.o ck.o (by rw[PN,bd.o,b7.o]) ci.o
    have bz:0<(left.length:Int):=by have:=List.length_pos_iff.2 hl0;omega
    have ba:Hid (∀x,x<0->x∈left->¬FB E left x):=fun x hx=>absurd hx (yJ _)
    have av:Hid (∀x,x∈left->x<s.ps.length/\x∈leasts s.ps.length E):=fun x hx=>by
     have:=hP.o.st.ok.own x hx;exact⟨this.1,B4.2 this⟩
    go_wp2;go_step3;go_wp2;go_step3;go_wp2
    go_loopw [13,83] (fun u ix wz=>∃p:Nat,p<=s.ps.length/\u=.slice A pre.length c/\ix=.int .i64 (p:Int)/\wz=wr/\Hid (∀x,x<p->x∈left->¬FB E left x)) (fun _ ix _=>s.ps.length-(intOf ix).toNat)
    case atStart=>exact⟨0,zP _,rfl,rfl,rfl,ba⟩
    case round=>
     clear ba b2;obtain⟨p,hp,rfl,rfl,aS,a4⟩:=hrel;subst aS
     by_cases hpn:p<s.ps.length
     .have ai:=hP.o.look hpn (by omega);have p0:(0:Int)<=(p:Int):=by omega
      have p1:(p:Int)<(s.ps.length:Int):=by omega
      by_cases ad:p∈left
      .rw [zG ad,C6 ad]at ai;obtain⟨ag,aR⟩:=J6 (Sj (aw.o p (av.o p ad).2) hP.o.kp fun b e=>af.o.2.2.2 p b (av.o p ad).2 e);rw[ag]at ai;have cH:=zh hpn
       have bY:Hid ((CX s.ps.length E p).length<=s.ps.length):=by
        unfold Hid CX;have h:=yS (fun q=>decide (Mut E p q)) (List.range s.ps.length)
        rwa [yZ]at h
       have bX:Hid (∀q,q∈CX s.ps.length E p->q<s.ps.length/\Mut E p q):=fun q hq=>CS.1 hq;have bZ:Hid ((∀q,q∈CX s.ps.length E p->∀h,(h,q)∈E->fst E h∈left->fst E h=p)->FB E left p):=fun h=>(KD aa.o).2 h;have b6:Hid (∀h q,q∈CX s.ps.length E p->(h,q)∈E->fst E h∈left->fst E h≠p->¬FB E left p):=fun h q hq he hl cy cj=>cy ((KD aa.o).1 cj q hq h he hl);obtain⟨cmp,aM⟩:∃x,x=CX s.ps.length E p:=⟨_,rfl⟩;rw[<-aM]at ai ag aR bY bX bZ b6;obtain⟨Ap2,aG⟩:∃x,x=slA (v p):=⟨_,rfl⟩;obtain⟨bg,a9⟩:∃x,x=slC (v p):=⟨_,rfl⟩;rw[<-aG,<-a9]at ai ag;rw[<-aG]at aR;have bU:Hid (∀q,q∈cmp.take 0->∀h,(h,q)∈E->fst E h∈left->fst E h=p):=fun q hq=>by simp at hq
       replace ag:=zh ag;replace aR:=zh aR;replace aM:=zh aM;clear aG a9;go_wp2
       go_loopw [96] (fun ix wz=>∃j:Nat,j<=cmp.length/\ix=.int .i64 (j:Int)/\wz=wr/\Hid (∀q,q∈cmp.take j->∀h,(h,q)∈E->fst E h∈left->fst E h=p)) (fun ix _=>cmp.length-(intOf ix).toNat)
       case atStart=>exact⟨0,zP _,rfl,rfl,bU⟩
       case round=>
        clear bU ai;obtain⟨j,hj,rfl,aS,aZ⟩:=hrel;subst aS
        by_cases hjl:j<cmp.length
        .obtain ⟨gp,op,rfl,cJ,a1⟩:=aR.o (by simpa using zl (zP _) hjl);have e1:=a1 j (by simpa using hjl);simp only[yH]at e1;have bC:=zh (zN hjl);have a7:cmp.take (j+1)=cmp.take j++[cmp[j]]:=zO hjl;obtain⟨q,b9⟩:∃x,x=cmp[j]:=⟨_,rfl⟩;rw[<-b9]at e1 bC a7;have al:q<s.ps.length:=(bX.o q bC.o).1;have ak:=bN.o.kp hP.o.kp af.o.1 af.o.2.1;have d1:=ak.hd q al;have d2:=ak.lt;obtain⟨A3,c3,bF,d⟩:=Sy (bN.o.rows q al);rw[bF]at d1
         have bv:Hid (∀i (hi:i<(T q).length),∃gg,A3=some ⟨gg,0,none⟩/\wr.cell? ⟨gg,i,none⟩=some (.int .i64 ((T q)[i]:Int))/\gg<wr.heap.size):=fun i hi=>by
          obtain⟨gg,hA,h1,h2⟩:=d i hi;exact⟨gg,hA,(zR (a:=⟨gg,i,none⟩) (hP.o.kp.block gg h1 (af.o.2.1 q gg al (by rw[bF,hA];rfl)))).trans h2,zJ h1 hP.o.kp.size⟩
         have j0:(0:Int)<=(j:Int):=by omega
         have j1:(j:Int)<(cmp.length:Int):=by omega
         have j2:(0:Int)<=(q:Int):=by omega
         have j3:(q:Int)<(s.ps.length:Int):=by omega
         have bT:Hid (∀h,h∈T q<->(h,q)∈E):=fun h=>by rw[bS.o q h al,EX]
         have cB:=bR.o q;have aF:Hid (∀h,h∈(T q).take 0->fst E h∈left->fst E h=p):=fun h hh=>by simp at hh
         replace a7:=zh a7;clear ak d bF b9 a1;go_wp2
         go_loopw [105] (fun ix wz=>∃i:Nat,i<=(T q).length/\ix=.int .i64 (i:Int)/\wz=wr/\Hid (∀h,h∈(T q).take i->fst E h∈left->fst E h=p)) (fun ix _=>(T q).length-(intOf ix).toNat)
         case atStart=>exact⟨0,zP _,rfl,rfl,aF⟩
         case round=>
          clear aF;obtain⟨i,hi,rfl,aS,bI⟩:=hrel;subst aS
          by_cases hil:i<(T q).length
          .obtain ⟨gg,rfl,a1,cD⟩:=bv.o i hil;have bw:=(bT.o _).1 (zN hil);have aQ:(T q).take (i+1)=(T q).take i++[(T q)[i]]:=zO hil;obtain⟨h,b1⟩:∃x,x=(T q)[i]:=⟨_,rfl⟩;rw[<-b1]at a1 bw aQ;have a2:h<s.ps.length:=(aa.o _ bw).1;have aP:=hP.o.kp;have f1:=(a5.o.of_block aP.size (aP.block (S+1) a5.o.lt af.o.2.2.1)).cell h a2;have f2:=(a5.o.of_block aP.size (aP.block (S+1) a5.o.lt af.o.2.2.1)).lt;rw[hF.o h a2]at f1;have ao:=hP.o.look (Gu (E:=E) a2) (by omega)
           have aL:fst E h∈left->fst E h=p\/¬FB E left p:=fun hl=>by
            by_cases e:fst E h=p
            .exact .inl e
            exact .inr (b6.o h q bC.o bw hl e)
           obtain⟨fh,a0⟩:∃x,x=fst E h:=⟨_,rfl⟩
           have aT:Hid ((fh∈left->fh=p)->∀x,x∈(T q).take (i+1)->fst E x∈left->fst E x=p):=fun hx x hm hl=>by
            rw[aQ]at hm
            rcases List.mem_append.1 hm with hm|hm
            .exact bI.o x hm hl
            rw[List.mem_singleton.1 hm,<-a0]at hl ⊢;exact hx hl
           have cI:fh<s.ps.length:=by rw[a0];exact Gu a2
           rw[<-a0]at f1 ao aL;have i0':(0:Int)<=(i:Int):=by omega
           have i1':(i:Int)<((T q).length:Int):=by omega
           have i2':(0:Int)<=(h:Int):=by omega
           have i3':(h:Int)<(s.ps.length:Int):=by omega
           clear b1 a0 aQ aP bv
           by_cases hfl:fh∈left
           .rw [zG hfl,C6 hfl]at ao
            by_cases hfe:fh=p
            .have m1:((fh:Int) != (p:Int))=false:=by rw[zZ];omega
             have ay:=zh (aT.o fun _=>hfe);subst hfe;clear aL aT;go_wp2;exact⟨⟨i+1,by omega,by go_num,trivial,ay⟩,by simp only[intOf];omega⟩
            have m1:((fh:Int) != (p:Int))=true:=by rw[yC];omega
            have aO:Hid (∀x,x<p+1->x∈left->¬FB E left x):=fun x hx a8=>by
             by_cases e:x=p
             .subst e;exact(aL hfl).resolve_left hfe
             exact a4.o x (by omega) a8
            replace hfe:=zh hfe;clear aL aT;go_wp2;exact⟨⟨p+1,by omega,rfl,by go_num,trivial,aO⟩,by simp only[intOf];omega⟩
           rw[zF hfl,Cb hfl]at ao;have ay:=zh (aT.o fun c=>absurd c hfl);clear aL aT;go_wp2;exact⟨⟨i+1,by omega,by go_num,trivial,ay⟩,by simp only[intOf];omega⟩
          obtain rfl:i=(T q).length:=by omega
          have bW:Hid (∀q,q∈cmp.take (j+1)->∀h,(h,q)∈E->fst E h∈left->fst E h=p):=fun x hx h he hl=>by
           rw[a7.o]at hx
           rcases List.mem_append.1 hx with hx|hx
           .exact aZ.o x hx h he hl
           rw[List.mem_singleton.1 hx]at he;exact bI.o h (by rw[yi];exact(bT.o h).2 he) hl
          have cC:=bY.o;clear aZ bI bv;go_wp2;exact⟨⟨j+1,by omega,by go_num,trivial,bW⟩,by simp only[intOf];omega⟩
        obtain rfl:j=cmp.length:=by omega
        have aH:=bZ.o fun q hq=>aZ.o q (by rw[yi];exact hq)
        have b8:Fs E left=some p:=Tw hP.o.st.ok ad aH fun x hx hf=>by
         by_cases c:p<=x
         .exact c
         exact absurd hf (a4.o x (by omega) hx)
        obtain⟨d,a6,ax⟩:=hP.o.step b8 hpn (by omega) cl;have bf:=ag.o;rw[bf]at d a6 ax;have had:Hid (∀j u,[(Value.slice Ap2 cmp.length bg)][j]? = some u->(wr.alloc (.cells #[.slice Ap2 cmp.length bg] 26)).cell? (Addr.add ⟨wr.heap.size,0,none⟩ j)=some u):=AX wr _ _
        have b3:Hid (pre.length<=100):=by
         have h1:=Do s.ps.length pre (hP.o.pre_nodup aa.o) fun x hx=>(hP.o.st.had x hx).1;unfold Hid;omega
        have cr:Hid ((left.erase p).length<gk):=by
         rw[hm,yp ad];have:=wc ad;unfold Hid;omega
        have bb:Hid ((pre++[p]).length=pre.length+1):=by unfold Hid;simp
        obtain⟨g0,bu,b0⟩:=Option.map_eq_some_iff.1 Se;simp only[Prod.mk.injEq]at b0;obtain⟨bh,bi,bj⟩:=b0;replace d:=zh d;replace a6:=zh a6;replace ax:=zh ax;replace bu:=zh bu;replace bh:=zh bh;replace bi:=zh bi;replace bj:=zh bj;clear aZ aH b8 bf hP
        go_wp2_with (at_builtin;refine wpList_append_new _ rfl _ _ 70 rfl w7.heap.size 26 g0 (.slice none 0 0) 1 24 Tryz.underlying70 bu.o bh.o bi.o bj.o rfl (by decide) (.slice A pre.length c) pre.length _ rfl d.o ⟨wr.heap.size,0,none⟩ 1 1 [.slice Ap2 cmp.length bg] rfl rfl had.o (A7 _ rfl) (by decide) (by have:=b3.o;unfold maxLen;omega) (by have:=b3.o;omega) a6.o ?_;intro bJ bK aE aN a3;obtain⟨W4,bD,ar⟩:=ax.o bJ bK aE aN;obtain⟨A9,c9,rfl⟩:=ET aE;replace ar:=zh ar;clear aE aN a3)
        rw[Exit.noGoto_normal];go_wp2
        go_roundg (left.erase p).length
        case measure=>exact cr.o
        case rel=>exact⟨A9,c9,pre++[p],left.erase p,rfl,by rw[bb.o],by have h:=ar.o;rwa [<-bb.o]at h⟩
      rw[zF ad,Cb ad]at ai
      have aO:Hid (∀x,x<p+1->x∈left->¬FB E left x):=fun x hx a8=>by
       by_cases e:x=p
       .subst e;exact absurd a8 ad
       exact a4.o x (by omega) a8
      clear ad;go_wp2;exact⟨⟨p+1,by omega,rfl,by go_num,trivial,aO⟩,by simp only[intOf];omega⟩
     exfalso;obtain⟨x,hx,hf⟩:=hP.o.st.ok.free hl0;exact a4.o x (by have:=(av.o x hx).1;omega) hx hf
end Ci
end
section
open Go.RowKit Go.Shelf
namespace Sh
open Nt Ci
theorem PO{S:Rat->Bool}{L:List Lp}{u:List Nat}{val:Nat->Rat}{p:Nat}(h:p∉u):C8 S L u val p=val p:=by
 unfold C8
 cases A5 S u.length u.length (Bl L u val) with
 |ok M=>exact zF h
 |error _=>rfl
theorem Dv{l:List Nat}{i x:Nat}(h:i<l.length):x∈l.take (i+1)<->x∈l.take i\/x=l[i]:=by
 rw[zO h,xO,xq]
theorem J7{S:Rat->Bool}{L:List Lp}{u:List Nat}:∀(us:List (List Nat)) (val:Nat->Rat),MV S L (us++[u]) val=C8 S L u (MV S L us val)
 | [],_=>rfl
 |_::us,_=>J7 us _
theorem Ready.take{L:List Lp}{F:List Nat}:∀{us:List (List Nat)} {done:List Nat} (k:Nat),Ready L F done us->Ready L F done (us.take k)
 | [],_,k,_=>by rw[List.take_nil];trivial
 |_::_,_,0,_=>trivial
 |_::us,_,k+1,h=>⟨h.1,Ready.take k h.2⟩
theorem Ready.at{L:List Lp}{F:List Nat}:∀{us:List (List Nat)} {done:List Nat} (k:Nat) (hk:k<us.length),Ready L F done us->Nxt L F (done++(us.take k).flatten) us[k]
 |u::us,done,0,_,h=>by simpa using h.1
 |u::us,done,k+1,hk,h=>by
  have:=Ready.at (done:=done++u) k (by simpa using hk) h.2
  simpa [xw] using this
noncomputable def DN(L:List Lp)(F:List Nat)(us:List (List Nat))(k:Nat):Nat->Rat:=MV SQ L (us.take k) fun p=>if p∈F then 1 else 0
theorem Nr{L:List Lp}{F:List Nat}{us:List (List Nat)}{k:Nat}(hk:k<us.length):DN L F us (k+1)=C8 SQ L us[k] (DN L F us k):=by
 unfold DN;rw[zO hk,J7]
theorem PP{us:List (List Nat)}{k:Nat}(hk:k<us.length):(us.take k).flatten.length+us[k].length<=us.flatten.length:=by
 have h:=congrArg (fun l=>(List.flatten l).length) (xK (k+1) us);simp only[xk,zX,zO hk,wT,List.flatten_nil,wN]at h;omega
theorem PQ{n:Nat}{L:List Lp}{F:List Nat}{us:List (List Nat)}(hL:Caps n L)(hr:Ready L F [] us)(d:us.flatten.length<=16)(k:Nat):
 ∃D,D<=6000^16/\Inv L F (us.take k).flatten (DN L F us k) D:=by
 have a:(us.take k).flatten.length<=16:=by
  have h:=congrArg (fun l=>(List.flatten l).length) (xK k us);simp only[xk,zX]at h;omega
 obtain⟨D,hD⟩:=Inv.run hL MY (us.take k) [] _ 1 (Inv.start L F) (hr.take k) (by simpa using a);rw[yP]at hD;exact⟨D,zS hD.dle (zV (by omega) a),hD⟩
theorem Inv.vals{L:List Lp}{F done:List Nat}{val:Nat->Rat}{D:Nat}(h:Inv L F done val D)(hD:D<=6000^16):Vals val D:=⟨h.rng,h.dp,hD,h.whole⟩
theorem Ns{L:List Lp}{F:List Nat}{us:List (List Nat)}(hr:Ready L F [] us){k:Nat}(hk:k<us.length):Nxt L F (us.take k).flatten us[k]:=by
 have:=hr.at k hk
 rwa [yP]at this
noncomputable def I6(L:List Lp)(u:List Nat)(val:Nat->Rat)(i:Nat):Nat->Rat:=fun p=>if p∈u.take i then C8 SQ L u val p else val p
theorem SJ{L:List Lp}{u:List Nat}{val:Nat->Rat}:I6 L u val 0=val:=by funext p;unfold I6;simp
theorem SK{L:List Lp}{u:List Nat}{val:Nat->Rat}{i:Nat}(h:i<u.length)(x:Nat):(if x=u[i] then C8 SQ L u val u[i] else I6 L u val i x)=I6 L u val (i+1) x:=by
 unfold I6
 by_cases e:x=u[i]
 .rw[zG e,zG ((Dv h).2 (.inr e)),e]
 rw[zF e]
 by_cases e2:x∈u.take i
 .rw[zG e2,zG ((Dv h).2 (.inl e2))]
 rw[zF e2,zF fun c=>((Dv h).1 c).elim e2 e]
theorem Uy{L:List Lp}{u:List Nat}{val:Nat->Rat}:I6 L u val u.length=C8 SQ L u val:=by
 funext p
 unfold I6;rw[yi]
 by_cases e:p∈u
 .rw[zG e]
 rw[zF e,PO e]
noncomputable def Hm(F:List Nat)(k:Nat):Nat->Rat:=fun p=>if p∈F.take k then 1 else 0
theorem PR{F:List Nat}:Hm F 0=fun _=>0:=by funext p;unfold Hm;simp
theorem PS{F:List Nat}{k p:Nat}(h:F[k]? = some p)(x:Nat):(if x=p then (1:Rat) else Hm F k x)=Hm F (k+1) x:=by
 obtain⟨hk,rfl⟩:=List.getElem?_eq_some_iff.1 h;unfold Hm
 by_cases e:x=F[k]
 .rw[zG e,zG ((Dv hk).2 (.inr e))]
 rw[zF e]
 by_cases e2:x∈F.take k
 .rw[zG e2,zG ((Dv hk).2 (.inl e2))]
 rw[zF e2,zF fun c=>((Dv hk).1 c).elim e2 e]
theorem SL{L:List Lp}{F:List Nat}{us:List (List Nat)}:Hm F F.length=DN L F us 0:=by
 funext p;unfold Hm DN;rw[yi,wJ];rfl
theorem PT{s:SR}{l:List (Option Addr×Nat×List Int)}(h:bare l=DY s){k:Nat}(hk:k<l.length):∃hc:k<(Aq s.ps.length (Ad s)).length,l[k].2.2=((Aq s.ps.length (Ad s))[k]).map fun(q:Nat)=>(q:Int):=by
 have hl:=congrArg List.length h;simp only[bare,DY,zU]at hl;refine⟨by omega,?_⟩;have h1:(bare l)[k]'(by simpa [bare] using hk)=(DY s)[k]'(by simp[DY];omega):=by simp only[h]
 simpa [bare,DY] using h1
noncomputable def Dc(n:Nat)(E:List (Nat×Nat))(F:List Nat)(t:Nat):List (List Nat):=((Aq n E).take t).map (unk E F)
noncomputable def GF(n:Nat)(E:List (Nat×Nat))(F:List Nat)(t:Nat):List (List Nat):=(Dc n E F t).filter fun u=>decide (u≠[])
section
variable {n:Nat} {E:List (Nat×Nat)} {F:List Nat} {t:Nat}
theorem Fq(h:t<(Aq n E).length):Dc n E F (t+1)=Dc n E F t++[unk E F (Aq n E)[t]]:=by
 unfold Dc;rw[zO h,xG,vQ]
theorem EY:Dc n E F (Aq n E).length=BZ n E F:=by unfold Dc BZ;rw[yi]
theorem SM:GF n E F (Aq n E).length=GX n E F:=by unfold GF GX;rw[EY]
theorem SN(h:t<(Aq n E).length)(h0:unk E F (Aq n E)[t]=[]):GF n E F (t+1)=GF n E F t:=by
 unfold GF;rw[Fq h,xp,h0];simp
theorem PU(h:t<(Aq n E).length)(h0:unk E F (Aq n E)[t]≠[]):GF n E F (t+1)=GF n E F t++[unk E F (Aq n E)[t]]:=by
 unfold GF;rw[Fq h,xp];simp[h0]
theorem J8:(Dc n E F t).flatten.length<=(BZ n E F).flatten.length:=by
 have e:Dc n E F t=(BZ n E F).take t:=by unfold Dc BZ;rw[List.map_take]
 rw[e];have h:=congrArg (fun l=>(List.flatten l).length) (xK t (BZ n E F));simp only[xk,zX]at h;omega
theorem Nu(h:t<(Aq n E).length):(Dc n E F (t+1)).flatten.length=(Dc n E F t).flatten.length+(unk E F (Aq n E)[t]).length:=by
 rw[Fq h,xk,zX];simp
theorem L8:(GF n E F t).length<=t:=by
 unfold GF Dc;refine zS (yS _ _) ?_;rw[zU,wF];omega
theorem SO(h:t<(Aq n E).length)(h8:8<(unk E F (Aq n E)[t]).length):BL n E F=true:=by
 unfold BL;rw[Bool.or_eq_true,List.any_eq_true];refine .inl ⟨_,?_,zH h8⟩;unfold BZ;exact List.mem_map.2 ⟨_,zN h,rfl⟩
theorem SP(h:16<(Dc n E F (Aq n E).length).flatten.length):BL n E F=true:=by
 unfold BL;rw[EY]at h;rw[zH h,Bool.or_true]
theorem Uz(h:(Dc n E F (Aq n E).length).flatten.length<=16)(h8:∀u,u∈Dc n E F (Aq n E).length->u.length<=8):BL n E F=false:=by
 unfold BL;rw[EY]at h h8;rw[zD (by omega),Bool.or_false];refine Bool.eq_false_iff.2 fun c=>?_;obtain⟨u,hu,h9⟩:=List.any_eq_true.1 c;have:=zk h9;have:=h8 u hu;omega
theorem SS{c:List Nat}{i:Nat}(h:i<c.length):unk E F (c.take (i+1))=unk E F (c.take i)++if 0<rk E F c[i] then [c[i]] else []:=by
 unfold unk;rw[zO h,xp]
 congr 1
 by_cases d:0<rk E F c[i]
 .simp[d]
 simp[d]
theorem PV{k i:Nat}(hE:InN n E)(hk:k<(Aq n E).length)(hi:i<((Aq n E)[k]).length):((Aq n E)[k])[i]<n/\at' n E ((Aq n E)[k])[i]=k:=by
 have hm:=zN hi
 have a:∀q,q∈(Aq n E)[k]->q<n:=by
  rw[Fm];exact fun q hq=>(CS.1 hq).1
 have h1:((Aq n E)[k])[i]<n:=a _ hm;exact⟨h1,((G8 hE h1 hk).1 hm).symm⟩
theorem I7(hE:InN n E){t:Nat}(h:t<(Aq n E).length):∀p,p∈(Aq n E)[t]->p<n:=fun p hp=>by
 obtain⟨i,hi,rfl⟩:=zo hp;exact(PV hE h hi).1
theorem Ow{c:List Nat}:(unk E F c).length<=c.length:=yS _ _
theorem PW(hE:InN n E){u:List Nat}(h:u∈GX n E F):(∀p,p∈u->p<n)/\u∈Dc n E F (Aq n E).length:=by
 have h1:=(List.mem_filter.1 h).1;refine⟨fun p hp=>?_,by rw[EY];exact h1⟩;obtain⟨c,hc,rfl⟩:=List.mem_map.1 h1;obtain⟨t,ht,rfl⟩:=zo hc;exact I7 hE ht p (List.mem_filter.1 hp).1
theorem U0{E:List Ent}(h:(E.map Ent.x).Nodup){k:Nat}(hk:k<E.length):E[k].x∉(E.take k).map Ent.x:=fun hm=>by
 obtain⟨e,he,hx⟩:=List.mem_map.1 hm;obtain⟨j,hj,rfl⟩:=zo he;rw[wF]at hj;rw[List.getElem_take]at hx;have:=List.pairwise_iff_getElem.1 h j k (by rw[zU];omega) (by rw[zU];omega) (by omega);rw[yH,yH]at this;exact this hx
theorem L9{L:List Lp}(hL:Caps n L):Ready L F [] (GX n (Am L) F):=(G9 hL.inN).drop_nil
end
end Sh
end
section
open Go.RowKit Go.Shelf
namespace Sh
open Nt Ci
theorem Kk(A:Option Addr)(ca:Nat)(n:Int)(l:List Int)(w:World)(hA:InInt w A l)(hl:l.length<=140737488355328):
 Calls Tryz.prog 40 #[.slice A l.length ca,.int .i64 n] w fun e w'=>e=.returned (.bool (BP n l))/\w'=w:=by
 have ag:=zh (fun(k:Nat) (h:k<l.length) (hb:¬DA n l k h)=>L2 h hb);have af:=zh (L3 (n:=n) (l:=l));replace hA:=zh hA;go_enter Tryz.func40,Tryz.ntmps40;go_wp2
 go_loopw [9] (fun i wr=>wr=w/\∃k:Nat,k<=l.length/\i=.int .i64 (k:Int)/\Hid (∀j (h:j<l.length),j<k->DA n l j h)) (fun i _=>l.length-(intOf i).toNat)
 case atStart=>exact⟨rfl,0,zP _,rfl,fun j _ h=>absurd h (yJ _)⟩
 case round=>
  obtain⟨rfl,k,hk,rfl,hI⟩:=hrel;obtain⟨wq,rfl⟩:∃z,z=wr:=⟨_,rfl⟩
  by_cases hlt:k<l.length
  .obtain ⟨b1,o1,rfl,ai,ad⟩:=hA.o (by omega);have e1:wq.cell? ⟨b1,o1+k,none⟩=some (.int .i64 l[k]):=ad k hlt;have e0:Hid (0<k->wq.cell? ⟨b1,o1+(k-1),none⟩=some (.int .i64 (l[k-1]'(by omega)))):=fun h=>ad (k-1) (by omega);have aa:=zh (ag.o k hlt)
   have ae:Hid (DA n l k hlt->∀j (h:j<l.length),j<k+1->DA n l j h):=fun h j h1 h3=>by
    by_cases e:j=k
    .subst e;exact h
    exact hI.o j h1 (by omega)
   have a:Hid (DA n l k hlt<->(0<=l[k]/\l[k]<n)/\(0<k->l[k-1]'(by omega)<l[k])):=vw;obtain⟨x,hx⟩:∃x,x=l[k]:=⟨_,rfl⟩;rw[<-hx]at e1 a;have j0:(0:Int)<=(k:Int):=by omega
   have j1:(k:Int)<(l.length:Int):=by omega
   clear ad hI hx;have ah:x<0\/(0<=x/\n<=x)\/(0<=x/\x<n):=by omega
   rcases ah with h1|⟨h1,h2⟩|⟨h1,h2⟩
   .have hG:=zh (aa.o fun h=>by have:=(a.o.1 h).1.1;omega);have m1:decide (x<0)=true:=zH h1;go_wp2;go_ret;exact⟨Ak hG.o.symm,rfl⟩
   .have hG:=zh (aa.o fun h=>by have:=(a.o.1 h).1.2;omega);have m1:decide (x<0)=false:=zD (by omega);have m2:decide (n<=x)=true:=zH h2;go_wp2;go_ret;exact⟨Ak hG.o.symm,rfl⟩
   have m1:decide (x<0)=false:=zD (by omega);have m2:decide (n<=x)=false:=zD (by omega)
   by_cases hk0:k=0
   .have m3:decide (0<(k:Int))=false:=zD (by omega);have m4:decide (0<k)=false:=zD (by omega);have d:=zh (ae.o (a.o.2 ⟨⟨h1,h2⟩,fun h=>by omega⟩));replace hk0:=zh hk0;go_wp2;exact⟨⟨(by first|rfl|trivial),k+1,by omega,by go_num,d⟩,by simp only[intOf];omega⟩
   have m3:decide (0<(k:Int))=true:=zH (by omega);have m4:decide (0<k)=true:=zH (by omega);have e2:=e0.o (by omega);obtain⟨y,hy⟩:∃y,y=l[k-1]'(by omega):=⟨_,rfl⟩;rw[<-hy]at e2;have j2:(0:Int)<=(k:Int)-1:=by omega
   have j3:(k:Int)-1<(l.length:Int):=by omega
   have j5:((k:Int)-1).toNat=k-1:=by omega
   by_cases hxy:y<x
   .have m5:decide (x<=y)=false:=zD (by omega);have d:=zh (ae.o (a.o.2 ⟨⟨h1,h2⟩,fun _=>by rw[<-hy];exact hxy⟩));replace hy:=zh hy;go_wp2;exact⟨⟨(by first|rfl|trivial),k+1,by omega,by go_num,d⟩,by simp only[intOf];omega⟩
   have m5:decide (x<=y)=true:=zH (by omega);have hG:=zh (aa.o fun h=>by have h3:=(a.o.1 h).2 (by omega);rw[<-hy]at h3;omega);replace hy:=zh hy;go_wp2;go_ret;exact⟨Ak hG.o.symm,rfl⟩
  obtain rfl:k=l.length:=by omega
  have hG:=zh (af.o fun j h=>hI.o j h h);clear hI;go_wp2;go_ret;exact⟨Ak hG.o.symm,rfl⟩
theorem VF:(Tryz.prog.info? 76).map (fun i=>(i.zero,i.size,i.bytes))=some (some (.pointer none),1,8):=by kernel_rfl
theorem PX{n:Nat}{F:List Int}(h:BP n F=true):F.length<=n:=by
 have hk:∀k (hk:k<F.length),(k:Int)<=F[k]:=fun k=>by
  induction k with
  |zero=>intro hk;exact(DB h hk).1.1
  |succ k ih=>
   intro hk;have h1:=ih (by omega);have h2:=(DB h hk).2 (by omega);simp only[wh]at h2;omega
 by_cases h0:0<F.length
 .have h1:=hk (F.length-1) (by omega);have h2:=(DB h (by omega:F.length-1<F.length)).1.2;omega
 omega
theorem I8{W W':World}{A:Option Addr}{l:List (Option Addr×Nat×List Int)}(h:SH W A l)(hb:Below W.heap.size W W'):SH W' A l:=fun h0=>by
 obtain⟨b,off,e,hl,hc⟩:=h h0;exact⟨b,off,e,zJ hl hb.size,fun j hj=>⟨(hb.cell (p:=⟨b,_,none⟩) hl).trans (hc j hj).1,(hc j hj).2.1.below hb,(hc j hj).2.2⟩⟩
theorem VMC.off{w:World}{vb mb n C b o:Nat}{val:Nat->Rat}{x:Value}(h:VMC w vb mb n val C)(hc:w.cell? ⟨b,o,none⟩=some x):b≠mb:=fun e=>by
 obtain⟨c,f,⟨D,⟨es,clock,hb,_⟩,_⟩,_⟩:=h.m;subst e;rw[World.cell?,hb]at hc
 cases hc
def Kl(s:SR)(F:List Int)(w:World)(e:Ending)(w':World):Prop :=
 (if As s=true/\BP s.ps.length F=true then
   (if BL s.ps.length (Ad s) (toN F)=true then e=.returned (.tuple #[.slice none 0 0,.int .i64 2])
    else ∃b,e=.returned (.tuple #[.slice (some ⟨b,0,none⟩) s.ps.length s.ps.length,.int .i64 0])/\w.heap.size<=b/\RowB w' b s.ps.length fun p=>rq (Ln SQ s.ps.length (Ae s.cap) (toN F) p))
   else e=.returned (.tuple #[.slice none 0 0,.int .i64 1]))/\Below w.heap.size w w'
theorem U1(s:SR)(Ap Ac Av Af:Option Addr)(cp cc cv cf:Nat)(F:List Int)(w:World)(hE:Env w)(hs:StIn w s Ap Ac Av)(cH:s.cap.length<=300)(hF:InInt w Af F)(ds:F.length<=140737488355328):
 Calls Tryz.prog 13 #[.agg #[.slice Ap s.ps.length cp,.slice Ac s.cap.length cc,.slice Av s.vot.length cv],.slice Af F.length cf] w (Kl s F w):=by
 have er:=hs.np;have ad:Hid (Bk (w.alloc (.cells #[.slice Ap s.ps.length cp,.slice Ac s.cap.length cc,.slice Av s.vot.length cv] 25)) w.heap.size 25 (SC s Ap Ac Av cp cc cv)):=Bk.new w _ _;have ak:Hid (Below w.heap.size w (w.alloc (.cells #[.slice Ap s.ps.length cp,.slice Ac s.cap.length cc,.slice Av s.vot.length cv] 25))):=(zI _ w).alloc (zA _) _;have bb:Hid (∀e w',(¬(As s=true/\BP s.ps.length F=true))->e=.returned (.tuple #[.slice none 0 0,.int .i64 1])->Below w.heap.size w w'->Kl s F w e w'):=fun e w' h1 h2 h3=>⟨by rw[zF h1];exact h2,h3⟩;have bj:Hid (∀e w',As s=true/\BP s.ps.length F=true->BL s.ps.length (Ad s) (toN F)=true->e=.returned (.tuple #[.slice none 0 0,.int .i64 2])->Below w.heap.size w w'->Kl s F w e w'):=fun e w' h1 h2 h3 h4=>⟨by rw[zG h1,zG h2];exact h3,h4⟩;have bh:Hid (∀e w' b,As s=true/\BP s.ps.length F=true->BL s.ps.length (Ad s) (toN F)=false->e=.returned (.tuple #[.slice (some ⟨b,0,none⟩) s.ps.length s.ps.length,.int .i64 0])->w.heap.size<=b->RowB w' b s.ps.length (fun p=>rq (Ln SQ s.ps.length (Ae s.cap) (toN F) p))->Below w.heap.size w w'->Kl s F w e w'):=fun e w' b h1 h2 h3 h4 h5 h6=>⟨by rw[zG h1,zF (by rw[h2];decide)];exact⟨b,h3,h4,h5⟩,h6⟩;have kS:=fun W (h:Below w.heap.size w W)=>Ef s Ap Ac Av cp cc cv W (hE.below h) (hs.below h);have c8:Hid (∀W,Below w.heap.size w W->StIn W s Ap Ac Av):=fun W h=>hs.below h;have kR:=zh (fun W (h:Below w.heap.size w W)=>Fo s Ap Ac Av Af cp cc cv cf F W (hE.below h) (c8.o W h) cH (hF.below h) ds);have kC:=zh (fun W (h:Below w.heap.size w W)=>I5 s Ap Ac Av cp cc cv W (hE.below h) (c8.o W h) cH);have kP:=fun W (h:Below w.heap.size w W)=>Kk Af cf (s.ps.length:Int) F W (hF.below h) ds;replace hE:=zh hE;replace hs:=zh hs;replace hF:=zh hF
 cases af:As s with
 |false=>
  have cX:Hid (¬(As s=true/\BP s.ps.length F=true)):=fun h=>by rw[af]at h;cases h.1
  rw[af]at kS;replace kS:=zh kS;replace af:=zh af;have u0:=ad.o.c0;have u1:=ad.o.c1;have u2:=ad.o.c2;have u9:=ad.o.lt;go_enter Tryz.func13,Tryz.ntmps13
  go_wp2_with fail
  go_step3
  go_wp2_with fail
  refine(kS.o _ ak.o).mono ?_;rintro e w1 ⟨rfl,hb⟩;have aD:=zh (ak.o.trans (hb.mono ak.o.size));have ae:=zh (ad.o.below hb);clear hb kS ak ad u0 u1 u2 u9;go_wp2;rw[yA];go_ret2;exact bb.o _ _ cX.o rfl aD.o
 |true=>
  rw[af]at kS;replace kS:=zh kS;replace af:=zh af
  cases ax:BP s.ps.length F with
  |false=>
   have cX:Hid (¬(As s=true/\BP s.ps.length F=true)):=fun h=>by rw[ax]at h;cases h.2
   rw[ax]at kP;replace kP:=zh kP;replace ax:=zh ax;have u0:=ad.o.c0;have u1:=ad.o.c1;have u2:=ad.o.c2;have u9:=ad.o.lt;go_enter Tryz.func13,Tryz.ntmps13
   go_wp2_with fail
   go_step3
   go_wp2_with fail
   refine(kS.o _ ak.o).mono ?_;rintro e w1 ⟨rfl,hb⟩;have aD:=zh (ak.o.trans (hb.mono ak.o.size));have ae:=zh (ad.o.below hb);clear hb kS ak ad u0 u1 u2 u9;have u0:=ae.o.c0;have u1:=ae.o.c1;have u2:=ae.o.c2;have u9:=ae.o.lt
   go_wp2_with fail
   refine(kP.o _ aD.o).mono ?_;rintro e wq ⟨rfl,hq⟩;obtain rfl:=hq.symm;go_wp2;rw[yA];go_ret2;exact bb.o _ _ cX.o rfl aD.o
  |true=>
   rw[ax]at kP;replace kP:=zh kP;have u0:=ad.o.c0;have u1:=ad.o.c1;have u2:=ad.o.c2;have u9:=ad.o.lt;go_enter Tryz.func13,Tryz.ntmps13
   go_wp2_with fail
   go_step3
   go_wp2_with fail
   refine(kS.o _ ak.o).mono ?_;rintro e w1 ⟨rfl,hb⟩;have aD:=zh (ak.o.trans (hb.mono ak.o.size));have ae:=zh (ad.o.below hb);clear hb kS ak ad u0 u1 u2 u9;have u0:=ae.o.c0;have u1:=ae.o.c1;have u2:=ae.o.c2;have u9:=ae.o.lt
   go_wp2_with fail
   refine(kP.o _ aD.o).mono ?_;rintro e wq ⟨rfl,hq⟩;obtain rfl:=hq.symm;clear u0 u1 u2 u9;have bZ:Hid (As s=true/\BP s.ps.length F=true):=⟨af.o,ax⟩;have ew:=PX ax;have ep:=Jy af.o;replace ax:=zh ax;clear kP bb;have kR1:=zh (kR.o w1 aD.o);have u0:=ae.o.c0;have u1:=ae.o.c1;have u2:=ae.o.c2;have u9:=ae.o.lt
   go_wp2_with fail
   refine kR1.o.mono ?_;rintro e w2 ⟨hr,hb⟩;rw[zG bZ.o]at hr;obtain⟨rkb,rfl,cm,b1⟩:=hr;have aJ:=zh (aD.o.trans (hb.mono aD.o.size));have a5:=zh (ae.o.below hb);replace b1:=zh b1;replace cm:=zh cm;clear hb kR kR1 u0 u1 u2 u9 ae;have kC1:=zh (kC.o w2 aJ.o);have u0:=a5.o.c0;have u1:=a5.o.c1;have u2:=a5.o.c2;have u9:=a5.o.lt
   go_wp2_with fail
   refine kC1.o.mono ?_;rintro e w4 ⟨hr,hb⟩;rw[zG af.o]at hr;obtain⟨Al,cl,l,rfl,bW,bS⟩:=hr;have bN:=zh (aJ.o.trans (hb.mono aJ.o.size));have cF:=zh (a5.o.below hb);have cn:=zh (b1.o.below hb);replace bW:=zh bW;replace bS:=zh bS;clear hb kC kC1 u0 u1 u2 u9 a5 b1 aJ;have ef:=@run_makeMap Tryz.prog;obtain⟨mb,bX⟩:∃x,x=w4.heap.size:=⟨_,rfl⟩;obtain⟨vb,bH⟩:∃x,x=w4.heap.size+1:=⟨_,rfl⟩;obtain⟨w5,bI⟩:∃W,W=((w4.alloc (.map #[] 0)).alloc (.cells #[.map (some w4.heap.size)] 73)):=⟨_,rfl⟩;have dk:Hid (Below w4.heap.size w4 w5):=by rw[bI];exact((zI _ w4).alloc (zA _) _).alloc (by simp) _
   have bo:Hid (VMC w5 vb mb s.ps.length (Hm (toN F) 0) 0):=by rw[bI,bH,bX,PR];exact⟨by have h:=Bk.new (w4.alloc (.map #[] 0)) 73 [.map (some w4.heap.size)];rw[zK]at h;exact h,⟨0,fun _=>none,(MapK.made w4 Tryz.prog 3 κi).alloc _,zA _,fun _ _=>rfl⟩,by omega⟩
   go_wp2_with fail
   (try rw[<-bI])
   (try rw[<-bH])
   replace bI:=zh bI;replace bH:=zh bH;replace bX:=zh bX;clear ef;have bJ:Hid (w.heap.size<w4.heap.size):=cF.o.lt;have ao:=zh (fun W (h:Below w4.heap.size w4 W)=>bN.o.trans (h.mono bN.o.size));have aY:Hid (mb=w4.heap.size/\vb=w4.heap.size+1):=⟨bX.o,bH.o⟩
   go_loopw [54] (fun ix wr=>∃(k:Nat),k<=F.length/\ix=.int .i64 (k:Int)/\Hid (Below w4.heap.size w4 wr)/\Hid (VMC wr vb mb s.ps.length (Hm (toN F) k) k)) (fun ix _=>F.length-(intOf ix).toNat)
   case atStart=>exact⟨0,zP _,rfl,dk,bo⟩
   case round=>
    clear dk bo;obtain⟨k,hk,rfl,an,aj⟩:=hrel;obtain⟨wz,rfl⟩:∃z,z=wr:=⟨_,rfl⟩
    by_cases hkl:k<F.length
    .obtain⟨p,cY,eF,cZ⟩:=Sx ax.o hkl;obtain⟨fb,fo,rfl,eB,aL⟩:=(hF.o.below (ao.o _ an.o)) (by omega);have e1:=aL k hkl;rw[cY]at e1;clear aL;have j0:(0:Int)<=(k:Int):=by omega
     have j1:(k:Int)<(F.length:Int):=by omega
     replace cY:=zh cY;replace cZ:=zh cZ
     go_wp2_with fail
     refine ef9 vb mb s.ps.length k p (Hm (toN F) k) wz (hE.o.below (ao.o _ an.o)) aj.o (by omega) (by omega) ?_;intro _ _ _ we bp aF;have dX:Hid (Below w4.heap.size w4 we):=aF.o.to_below an.o (fun x hx=>by have:=aY.o.1;simp at hx;omega);have cE:Hid (VMC we vb mb s.ps.length (Hm (toN F) (k+1)) (k+1)):=bp.o.congr fun x _=>(PS cZ.o x).symm;clear bp aF an aj;go_wp2;exact⟨⟨k+1,by omega,by go_num,dX,cE⟩,by simp only[intOf];omega⟩
    obtain rfl:k=F.length:=by omega
    have d9:=zh (cF.o.below an.o);have dO:=zh (cn.o.below an.o);have dK:=zh (I8 bW.o an.o);have ba:=zh (ao.o _ an.o);clear cF cn bW ao
    go_wp2_with fail
    go_step3
    go_wp2_with fail
    have cV:l.length=(Aq s.ps.length (Ad s)).length:=by have:=congrArg List.length bS.o;simpa [bare,DY] using this
    have aT:Hid (VMC wz vb mb s.ps.length (Hm (toN F) F.length) F.length):=aj;have db:Hid (mb<wz.heap.size/\vb<wz.heap.size):=⟨aj.o.lt,aj.o.x.lt⟩;clear aj;have bU:Hid (InN s.ps.length (Ad s)):=by rw[<-CN];exact(Cq af.o).inN
    have ea:(Aq s.ps.length (Ad s)).length<=60:=by have h1:=G7 (n:=s.ps.length) (E:=Ad s);have h2:=Sb bU.o;omega
    have cK:Hid (∀t (h:t<(Aq s.ps.length (Ad s)).length),((Aq s.ps.length (Ad s))[t]).length<=60/\∀p,p∈(Aq s.ps.length (Ad s))[t]->p<s.ps.length):=fun t h=>⟨by have h1:=Do _ _ (GW h) (I7 bU.o h);omega,I7 bU.o h⟩;obtain⟨i0,cR,bM⟩:=Option.map_eq_some_iff.1 I3;simp only[Prod.mk.injEq]at bM;obtain⟨df,dh,di⟩:=bM;replace cR:=zh cR;replace df:=zh df;replace dh:=zh dh;replace di:=zh di;obtain⟨i1,cT,bM⟩:=Option.map_eq_some_iff.1 VF;simp only[Prod.mk.injEq]at bM;obtain⟨dc,dd,de⟩:=bM;replace cT:=zh cT;replace dc:=zh dc;replace dd:=zh dd;replace de:=zh de;have cj:=zh cV;rw[cV];clear cV;have dy:Hid (SyM wz wz.heap.size (.slice none 0 0) []):=SyM.start _ _;have dN:Hid (Value.int .i64 0=.int .i64 ((Dc s.ps.length (Ad s) (toN F) 0).flatten.length:Nat)):=rfl
    go_loopw [14,15,65] (fun vx rx ix wr=>∃(t:Nat)(Es:List Ent)(Ay:Option Addr)(cy:Nat),t<=(Aq s.ps.length (Ad s)).length/\ix=.int .i64 (t:Int)/\rx=.int .i64 ((Dc s.ps.length (Ad s) (toN F) t).flatten.length:Nat)/\vx=.slice Ay Es.length cy/\Hid (Es.map Ent.u=GF s.ps.length (Ad s) (toN F) t)/\Hid (SyM wr wz.heap.size (.slice Ay Es.length cy) Es)/\Hid (∀u,u∈Dc s.ps.length (Ad s) (toN F) t->u.length<=8)/\Hid (Below wz.heap.size wz wr)) (fun _ _ ix _=>(Aq s.ps.length (Ad s)).length-(intOf ix).toNat)
    case atStart=>exact⟨0,[],none,0,zP _,rfl,dN.o,rfl,rfl,dy,(fun u h=>by cases h),zI _ _⟩
    case round=>
     clear dy dN;obtain⟨t,Es,Ay,cy,ht,rfl,rfl,rfl,bf,am,h8,av⟩:=hrel;obtain⟨wt,rfl⟩:∃z,z=wr:=⟨_,rfl⟩
     by_cases htl:t<(Aq s.ps.length (Ad s)).length
     .obtain ⟨eL,eM,rfl,en,aL⟩:=(I8 dK.o av.o) (by rw[cj.o];omega);have cr:t<l.length:=by rw[cj.o];exact htl
      obtain⟨e1,aB,_⟩:=aL t cr;obtain⟨_,dL⟩:=PT bS.o cr;rw[dL]at e1 aB;rw[zU]at e1;obtain⟨cg,bT⟩:=cK.o t htl;have a8:=Nu (E:=Ad s) (F:=toN F) htl;have aO:=zh (fun h=>SN (F:=toN F) htl h);have aN:=zh (fun h=>PU (F:=toN F) htl h);have aA:=zh (fun h=>SO (F:=toN F) htl h);have aZ:=Fq (E:=Ad s) (F:=toN F) htl;have dF:(Dc s.ps.length (Ad s) (toN F) (t+1)).flatten.length<=60:=by have h1:=J8 (n:=s.ps.length) (E:=Ad s) (F:=toN F) (t:=t+1);have h2:=Iw (F:=toN F) (Cq af.o);rw[CN]at h2;omega
      obtain⟨c,hc⟩:∃c,c=((Aq s.ps.length (Ad s))[t]):=⟨_,rfl⟩;rw[<-hc]at e1 aB cg bT a8 aO aN aA aZ;have a3:Hid ((unk (Ad s) (toN F) c).length<=8->∀u,u∈Dc s.ps.length (Ad s) (toN F) (t+1)->u.length<=8):=fun h u hu=>by rw[aZ,xO,xq]at hu;exact hu.elim (h8.o u) (fun e=>by rw[e];exact h)
      replace hc:=zh hc;replace aZ:=zh aZ;replace aB:=zh aB;replace bT:=zh bT;obtain⟨ah,cG⟩:∃x,x=l[t].1:=⟨_,rfl⟩;obtain⟨ch,cJ⟩:∃x,x=l[t].2.1:=⟨_,rfl⟩;rw[<-cG]at e1 aB;rw[<-cJ]at e1;replace cG:=zh cG;replace cJ:=zh cJ;clear aL dL;obtain⟨R0,ai⟩:∃x,x=(Dc s.ps.length (Ad s) (toN F) t).flatten.length:=⟨_,rfl⟩;obtain⟨R1,bk⟩:∃x,x=(Dc s.ps.length (Ad s) (toN F) (t+1)).flatten.length:=⟨_,rfl⟩;rw[<-ai,<-bk]at a8;rw[<-bk]at dF;rw[<-ai];have eJ:(0:Int)<=(t:Int):=by omega
      have eK:(t:Int)<((Aq s.ps.length (Ad s)).length:Int):=by omega
      obtain⟨xb,bL⟩:∃x,x=wt.heap.size:=⟨_,rfl⟩;obtain⟨wu,bK⟩:∃W,W=(wt.alloc (.cells #[.slice none 0 0,.slice none 0 0,.slice none 0 0] 79)):=⟨_,rfl⟩;have dq:Hid (Below wt.heap.size wt wu):=by rw[bK];exact(zI _ wt).alloc (zA _) _
      have dr:Hid (EntB wu wt.heap.size xb none 0 []):=by rw[bK,bL];exact EntB.start (Bk.new wt _ _)
      have dT:Hid (wt.heap.size<=xb):=ye bL.symm
      go_wp2_with fail
      (try rw[<-bK])
      (try rw[<-bL])
      replace bK:=zh bK;replace bL:=zh bL;replace ai:=zh ai;replace bk:=zh bk;have cI:Hid (c.length<=60):=cg;have aP:Hid (t<(Aq s.ps.length (Ad s)).length):=htl;have b7:=zh (fun W (h:Below wt.heap.size wt W)=>(av.o.trans (h.mono av.o.size):Below wz.heap.size wz W))
      go_loopw [73] (fun jx wr=>∃(i:Nat)(A:Option Addr)(cu:Nat),i<=c.length/\jx=.int .i64 (i:Int)/\Hid (EntB wr wt.heap.size xb A cu (unk (Ad s) (toN F) (c.take i)))/\Hid (Below wt.heap.size wt wr)) (fun jx _=>c.length-(intOf jx).toNat)
      case atStart=>exact⟨0,none,0,zP _,rfl,dr,dq⟩
      case round=>
       clear dr dq;obtain⟨i,A,cu,hi,rfl,ag,au⟩:=hrel;obtain⟨wi,rfl⟩:∃z,z=wr:=⟨_,rfl⟩
       by_cases hil:i<c.length
       .obtain ⟨ey,eE,rfl,eo,aL⟩:=(aB.o.below au.o) (by rw[zU];omega);have e1:=aL i (by rw[zU];exact hil);rw[yH]at e1;have b0:=bT.o _ (zN hil);have ay:=SS (E:=Ad s) (F:=toN F) hil;have b3:(unk (Ad s) (toN F) (c.take i)).length<=60:=zS Ow (by rw[wF];omega);obtain⟨p,hp⟩:∃p,p=c[i]:=⟨_,rfl⟩;rw[<-hp]at e1 b0 ay;replace hp:=zh hp;clear aL;have co:=zh ((dO.o.below (b7.o _ au.o)));have r1:=co.o.cell p b0;have r9:=co.o.lt;have j0:(0:Int)<=(i:Int):=by omega
        have j1:(i:Int)<(c.length:Int):=by omega
        have q0:(0:Int)<=(p:Int):=by omega
        have q1:(p:Int)<(s.ps.length:Int):=by omega
        generalize rk (Ad s) (toN F) p=rv at r1 ay
        by_cases hrv:0<rv
        rotate_left
        .have t1:decide (0<rv)=false:=zD hrv;rw[zF hrv,wN]at ay;have be:Hid (EntB wi wt.heap.size xb A cu (unk (Ad s) (toN F) (c.take (i+1)))):=by rw[ay];exact ag.o
         replace ay:=zh ay;replace hrv:=zh hrv;clear ag;go_wp2;exact⟨⟨i+1,A,cu,by omega,by go_num,be,au⟩,by simp only[intOf];omega⟩
        have t1:decide (0<rv)=true:=zH hrv;rw[zG hrv]at ay;replace hrv:=zh hrv;obtain⟨m,hm⟩:∃m,m=(unk (Ad s) (toN F) (c.take i)).length:=⟨_,rfl⟩;have x0:=ag.o.x.c0;have x9:=ag.o.x.lt;rw[<-hm]at x0 b3;have bP:Hid (EntB (wi.alloc (.cells #[.int .i64 (p:Int)] 3)) wt.heap.size xb A cu (unk (Ad s) (toN F) (c.take i))):=ag.o.below ((zI _ wi).alloc (zA _) _);have dZ:Hid (Below wt.heap.size wt (wi.alloc (.cells #[.int .i64 (p:Int)] 3))):=au.o.alloc au.o.size _;have had:Hid (∀j u,[Value.int .i64 (p:Int)][j]? = some u->(wi.alloc (.cells #[.int .i64 (p:Int)] 3)).cell? (Addr.add ⟨wi.heap.size,0,none⟩ j)=some u):=Ci.AX wi _ 3;have dP:Hid ((wi.alloc (.cells #[.int .i64 (p:Int)] 3)).ownsRow wt.heap.size 3 1 (.slice A m cu) m (Ca (unk (Ad s) (toN F) (c.take i)))):=by have h:=bP.o.o;rw[<-hm]at h;exact h
        have dD:Hid (wt.heap.size<=(wi.alloc (.cells #[.int .i64 (p:Int)] 3)).heap.size):=dZ.o.size;have ct:=zh b3
        have eh:Hid (∀v' w',w'.ownsRow wt.heap.size 3 1 v' (m+1) (Ca (unk (Ad s) (toN F) (c.take i))++[.int .i64 (p:Int)])->(wi.alloc (.cells #[.int .i64 (p:Int)] 3)).grownBy w' (Value.slice A m cu).ownBlock->(v'.ownBlock=(Value.slice A m cu).ownBlock\/v'.ownBlock=some (wi.alloc (.cells #[.int .i64 (p:Int)] 3)).heap.size)->∃A' c',v'=.slice A' (m+1) c'/\EntB (w'.setCell ⟨xb,0,none⟩ v') wt.heap.size xb A' c' (unk (Ad s) (toN F) (c.take (i+1)))/\Bk w' xb 79 [.slice A m cu,.slice none 0 0,.slice none 0 0]/\Below wt.heap.size wt w'):=fun v' w' h1 h2 h3=>by
         rw[hm]at h1 h2 h3;obtain⟨A',c',q1,q2,q3⟩:=bP.o.step h1 h2 h3;rw[ay,hm];refine⟨A',c',q1,q2,q3,?_⟩;exact((Kp.refl [] wi).alloc (.cells #[.int .i64 (p:Int)] 3)).to_below au.o (fun x hx=>by simp at hx) |>.trans ⟨h2.os,h2.tape,h2.output,h2.size,fun k hk=>h2.block k (zJ hk dD.o) fun e=>by have:=(bP.o.o.lt k e.symm).1;omega⟩
        replace hm:=zh hm;replace ay:=zh ay;clear ag bP
        go_wp2_with (at_builtin;refine Ci.wpList_append_new _ rfl _ _ 26 rfl wt.heap.size 3 i0 (.int .i64 0) 1 8 Tryz.underlying26 cR.o df.o dh.o di.o rfl (by decide) (.slice A m cu) m (Ca (unk (Ad s) (toN F) (c.take i))) rfl dP.o ⟨wi.heap.size,0,none⟩ 1 1 [.int .i64 (p:Int)] rfl rfl had.o (Ci.A7 _ rfl) (by decide) (by have:=ct.o;unfold maxLen;omega) (by have:=ct.o;omega) dD.o ?_;intro v' w' ho hg hn;obtain⟨A',c',da,be,b4,aJ⟩:=eh.o v' w' ho hg hn;replace be:=zh be;replace aJ:=zh aJ;have z0:=b4.frozen 0;have z1:=b4.c0;have z9:=b4.lt;clear ho hg hn b4 x0 x9;subst da)
        exact⟨⟨i+1,A',c',by omega,by go_num,be,((Kp.refl [xb] _).set _ (.inl (by simp))).to_below aJ.o (fun x hx=>by have:=dT.o;simp at hx;omega)⟩,by simp only[intOf];omega⟩
       obtain rfl:i=c.length:=by omega
       rw[yi]at ag;have b3:(unk (Ad s) (toN F) c).length<=60:=zS Ow cI.o;have b8:=zh (b7.o _ au.o);have cd:=zh (am.o.below au.o);obtain⟨u,hu⟩:∃u,u=unk (Ad s) (toN F) c:=⟨_,rfl⟩;rw[<-hu]at ag b3 a8 a3 aO aN aA;replace hu:=zh hu;have x0:=ag.o.x.c0;have x9:=ag.o.x.lt;have bx:Hid (Value.int .i64 ((R0:Int)+(u.length:Int))=.int .i64 ((Dc s.ps.length (Ad s) (toN F) (t+1)).flatten.length:Nat)):=by rw[<-bk.o,a8];go_num
       have em:R0+u.length<=60:=by omega
       replace a8:=zh a8
       by_cases bD:u=[]
       .subst bD;have bg:Hid (Es.map Ent.u=GF s.ps.length (Ad s) (toN F) (t+1)):=by rw[aO.o rfl];exact bf.o
        have cw:=zh (a3.o (by simp));simp only[yQ]at x0 bx;clear aO aN aA a3 ag;go_wp2;exact⟨⟨t+1,Es,Ay,cy,aP.o,by go_num,bx.o,rfl,bg,cd,cw,b8⟩,by have:=aP.o;simp only[intOf];omega⟩
       have eH:0<u.length:=by cases u with|nil=>exact absurd rfl bD|cons _ _=>simp
       have m2:((u.length:Int)==0)=false:=by rw[zM];omega
       have dM:=zh (aN.o bD);replace bD:=zh bD;clear aO aN;have aR:Hid (Below w.heap.size w wi):=ba.o.trans (b8.o.mono ba.o.size)
       by_cases hu8:8<u.length
       .have m3:decide (8<(u.length:Int))=true:=zH (by omega);have br:=zh (aA.o hu8);replace hu8:=zh hu8;clear aA a3 ag;go_wp2;rw[yA];go_ret2;exact bj.o _ _ bZ.o br.o rfl aR.o
       have m3:decide (8<(u.length:Int))=false:=zD (by omega);have cw:=zh (a3.o (by omega));have cM:Es.length<=60:=by have h1:=congrArg List.length bf.o;have h2:=L8 (n:=s.ps.length) (E:=Ad s) (F:=toN F) (t:=t);rw[zU]at h1;have:=aP.o;omega
       obtain⟨q,hq⟩:∃q,q=Es.length:=⟨_,rfl⟩;have bR:Hid (Below wt.heap.size wt (wi.alloc (.cells #[.pointer (some ⟨xb,0,none⟩)] 76))):=au.o.alloc au.o.size _;have bv:Hid ((wi.alloc (.cells #[.pointer (some ⟨xb,0,none⟩)] 76)).ownsRow wz.heap.size 76 1 (.slice Ay q cy) q (Es.map Ent.pt)):=by rw[hq];exact AS am.o.row bR.o
       have dB:Hid (∀j u,[Value.pointer (some ⟨xb,0,none⟩)][j]? = some u->(wi.alloc (.cells #[.pointer (some ⟨xb,0,none⟩)] 76)).cell? (Addr.add ⟨wi.heap.size,0,none⟩ j)=some u):=Ci.AX wi _ 76;have ce:Hid (wz.heap.size<=(wi.alloc (.cells #[.pointer (some ⟨xb,0,none⟩)] 76)).heap.size):=zS av.o.size bR.o.size
       have dR:Hid (∀v' w',w'.ownsRow wz.heap.size 76 1 v' (q+1) (Es.map Ent.pt++[.pointer (some ⟨xb,0,none⟩)])->(wi.alloc (.cells #[.pointer (some ⟨xb,0,none⟩)] 76)).grownBy w' (Value.slice Ay q cy).ownBlock->(v'.ownBlock=(Value.slice Ay q cy).ownBlock\/v'.ownBlock=some (wi.alloc (.cells #[.pointer (some ⟨xb,0,none⟩)] 76)).heap.size)->∃Ay' cy',v'=.slice Ay' (q+1) cy'/\SyM w' wz.heap.size (.slice Ay' (Es++[(⟨xb,A,cu,u⟩:Ent)]).length cy') (Es++[(⟨xb,A,cu,u⟩:Ent)])/\Below wz.heap.size wz w'):=fun v' w' h1 h2 h3=>by
        obtain⟨Ay',cy',rfl⟩:=Ci.ET h1;refine⟨Ay',cy',rfl,?_,?_⟩
        .have hl:(Es++[(⟨xb,A,cu,u⟩:Ent)]).length=q+1:=by rw[zX,hq];rfl
         rw[hl];have cz:=ag.o.below ((zI _ wi).alloc (zA _) (.cells #[.pointer (some ⟨xb,0,none⟩)] 76));rw[hq]at h1 h2 h3 ⊢;refine SyM.add (e:=⟨xb,A,cu,u⟩) am.o av.o.size bR.o cz.x cz.inInt dT.o (fun b o e=>cz.blk b o e) ?_ h2 (h3.imp id fun e=>⟨_,e,zA _⟩);exact h1
        exact av.o.trans (bR.o.mono av.o.size) |>.trans ⟨h2.os,h2.tape,h2.output,h2.size,fun k hk=>h2.block k (zJ hk ce.o) fun e=>by have:=(bv.o.lt k e.symm).1;omega⟩
       have bg:Hid ((Es++[(⟨xb,A,cu,u⟩:Ent)]).map Ent.u=GF s.ps.length (Ad s) (toN F) (t+1)):=by rw[dM.o,xG,bf.o];rfl
       have eg:Hid ((Es++[(⟨xb,A,cu,u⟩:Ent)]).length=q+1):=by rw[zX,hq];rfl
       have ci:Hid (q<=60):=by rw[hq];exact cM
       rw[<-hq];replace hq:=zh hq;replace cM:=zh cM;clear dM aA a3 ag cd
       go_wp2_with (at_builtin;refine Ci.wpList_append_new _ rfl _ _ 75 rfl wz.heap.size 76 i1 (.pointer none) 1 8 Tryz.underlying75 cT.o dc.o dd.o de.o rfl (by decide) (.slice Ay q cy) q (Es.map Ent.pt) rfl bv.o ⟨wi.heap.size,0,none⟩ 1 1 [.pointer (some ⟨xb,0,none⟩)] rfl rfl dB.o (Ci.A7 _ rfl) (by decide) (by have:=ci.o;unfold maxLen;omega) (by have:=ci.o;omega) ce.o ?_;intro v' w' ho hg hn;obtain⟨Ay',cy',da,cC,cx⟩:=dR.o v' w' ho hg hn;replace cC:=zh cC;replace cx:=zh cx;clear ho hg hn x0 x9;subst da)
       exact⟨⟨t+1,Es++[(⟨xb,A,cu,u⟩:Ent)],Ay',cy',aP.o,by go_num,bx.o,by rw[eg.o],bg,cC,cw,cx⟩,by have:=aP.o;simp only[intOf];omega⟩
     obtain rfl:t=(Aq s.ps.length (Ad s)).length:=by omega
     have aR:Hid (Below w.heap.size w wt):=ba.o.trans (av.o.mono ba.o.size);have aV:Hid (Es.map Ent.u=GX s.ps.length (Ad s) (toN F)):=bf.o.trans SM;obtain⟨R0,ai⟩:∃x,x=(Dc s.ps.length (Ad s) (toN F) (Aq s.ps.length (Ad s)).length).flatten.length:=⟨_,rfl⟩;rw[<-ai];have el:R0<=60:=by have h1:=J8 (n:=s.ps.length) (E:=Ad s) (F:=toN F) (t:=(Aq s.ps.length (Ad s)).length);have h2:=Iw (F:=toN F) (Cq af.o);rw[CN]at h2;omega
     by_cases h16:16<R0
     .have m3:decide (16<(R0:Int))=true:=zH (by omega);have br:=zh (SP (n:=s.ps.length) (E:=Ad s) (F:=toN F) (by rw[<-ai];exact h16));replace h16:=zh h16;replace ai:=zh ai;go_wp2;rw[yA];go_ret2;exact bj.o _ _ bZ.o br.o rfl aR.o
     have m3:decide (16<(R0:Int))=false:=zD (by omega);have dE:=zh (Uz (n:=s.ps.length) (E:=Ad s) (F:=toN F) (by rw[<-ai];omega) h8.o);have bA:(GX s.ps.length (Ad s) (toN F)).flatten.length<=16:=by unfold GX;rw[EW,<-EY,<-ai];omega
     replace bA:=zh bA;have ek:Es.length<=60:=by have h1:=congrArg List.length bf.o;have h2:=L8 (n:=s.ps.length) (E:=Ad s) (F:=toN F) (t:=(Aq s.ps.length (Ad s)).length);rw[zU]at h1;omega
     replace h16:=zh h16;replace ai:=zh ai
     go_wp2_with fail
     have aS:=zh (Cq af.o);have bm:=L9 (F:=toN F) (Cq af.o);rw[CN,<-aV.o]at bm;have dx:=zh bm;clear bm;have aq:(Es.map Ent.u).flatten.length<=16:=by rw[aV.o];exact bA.o
     replace aq:=zh aq;have dz:=aT.o.below av.o;have cA:F.length=(toN F).length:=by simp[toN]
     have aW:VMC wt vb mb s.ps.length (DN (Ae s.cap) (toN F) (Es.map Ent.u) 0) (F.length+((Es.map Ent.u).take 0).flatten.length):=by have h:=dz.congr (val':=DN (Ae s.cap) (toN F) (Es.map Ent.u) 0) (fun p _=>by rw[<-SL (L:=Ae s.cap) (us:=(Es.map Ent.u)),cA]);simpa using h
     replace aW:=zh aW;clear dz;replace cA:=zh cA;have dA:=zh (d9.o.below av.o);have dw:Hid (Kp (mb::(Es.take 0).map Ent.x) wt wt):=Kp.refl _ _
     go_loopw [123] (fun ix wr=>∃(k:Nat),k<=Es.length/\ix=.int .i64 (k:Int)/\Hid (Kp (mb::(Es.take k).map Ent.x) wt wr)/\Hid (VMC wr vb mb s.ps.length (DN (Ae s.cap) (toN F) (Es.map Ent.u) k) (F.length+((Es.map Ent.u).take k).flatten.length))) (fun ix _=>Es.length-(intOf ix).toNat)
     case atStart=>exact⟨0,zP _,rfl,dw,aW⟩
     case round=>
      clear dw aW;obtain⟨k,hk,rfl,al,aj⟩:=hrel;obtain⟨aa,rfl⟩:∃z,z=wr:=⟨_,rfl⟩
      by_cases hkl:k<Es.length
      .obtain ⟨e,he⟩:∃e,e=Es[k]:=⟨_,rfl⟩;have aC:e∈Es:=by rw[he];exact zN hkl
       obtain⟨cP,cL,eA⟩:=am.o.ent e aC;have bY:=U0 am.o.nd hkl;rw[<-he]at bY;have a9:(Es.map Ent.u)[k]'(by rw[zU];exact hkl)=e.u:=by rw[yH,<-he]
       have bG:=PW bU.o (u:=e.u) (by rw[<-aV.o];exact List.mem_map_of_mem aC);have bF:=h8.o _ bG.2;have bu:=Ns dx.o (k:=k) (by rw[zU];exact hkl);rw[a9]at bu;obtain⟨D,hD,aM⟩:=PQ aS.o dx.o aq.o k;have ar:=aM.vals hD;have eb:=PP (us:=(Es.map Ent.u)) (k:=k) (by rw[zU];exact hkl);rw[a9]at eb;have eG:=aq.o;have aI:e.x≠mb/\e.x≠vb:=by have:=db.o;omega
       have bt:e.x∉mb::(Es.take k).map Ent.x:=fun h=>(List.mem_cons.1 h).elim aI.1 bY;have ez:Hid (Below w.heap.size w wt):=aR;have a2:Hid (∀x,x∈mb::(Es.take k).map Ent.x->w4.heap.size<=x):=fun x hx=>(List.mem_cons.1 hx).elim (fun h=>by rw[h];exact ye aY.o.1.symm) (fun h=>by obtain⟨e2,aH,rfl⟩:=List.mem_map.1 h;have h1:=(am.o.ent e2 (yO aH)).2.2;have h2:=an.o.size;omega);have aE:Hid (Below w.heap.size w aa):=al.o.to_below aR.o (fun x hx=>by have h1:=a2.o x hx;have h2:=bN.o.size;omega);have dU:Hid (Bk aa e.x 79 [.slice e.A e.u.length e.c,.slice none 0 0,.slice none 0 0]):=cP.kp al.o bt;have eI:w.heap.size<=e.x:=by have h1:=aR.o.size;have h2:=ba.o.size;omega
       have bE:Hid (∀b o,e.A=some ⟨b,o,none⟩->b∉mb::(Es.take k).map Ent.x/\b≠e.x/\b≠mb):=fun b o h=>by
        obtain⟨h1,h2,h3⟩:=am.o.blk e aC b o h;have hb:b≠mb:=by have:=db.o.1;omega
        refine⟨fun hm=>(List.mem_cons.1 hm).elim hb fun h=>?_,h3 e aC,hb⟩;obtain⟨e2,aH,rfl⟩:=List.mem_map.1 h;exact h3 e2 (yO aH) rfl
       have cU:Hid (InInt aa e.A (e.u.map fun(q:Nat)=>(q:Int))):=inInt_kp cL al.o (fun b o h=>(bE.o b o h).1);have aG:Hid (Bk aa w.heap.size 25 (SC s Ap Ac Av cp cc cv)):=dA.o.kp al.o (fun h=>(List.mem_cons.1 h).elim (fun h=>by have h1:=aY.o.1;have h2:=bJ.o;omega) (fun h=>by obtain⟨e2,aH,q⟩:=List.mem_map.1 h;have h1:=(am.o.ent e2 (yO aH)).2.2;have h2:=bJ.o;have h3:=an.o.size;omega));obtain⟨val,a1⟩:∃v,v=DN (Ae s.cap) (toN F) (Es.map Ent.u) k:=⟨_,rfl⟩;rw[<-a1]at aj aM ar;obtain⟨C0,bO⟩:∃c,c=F.length+((Es.map Ent.u).take k).flatten.length:=⟨_,rfl⟩;rw[<-bO]at aj;have eu:C0+e.u.length<=100000:=by omega
       have kB:=PF (D:=D) s Ap Ac Av e.A cp cc cv e.c e.u val e.x vb mb aa af.o cH bF bu.nodup bG.1 ar dU.o (fun W h=>hE.o.below (h.to_below aE.o (fun x hx=>by simp at hx;omega))) (fun W h=>(c8.o W (h.to_below aE.o (fun x hx=>by simp at hx;omega))).cap) (fun W h=>inInt_kp cU.o h (fun b o q=>by have:=(bE.o b o q).2.1;simpa using this)) (fun W h=>(aj.o.kp h (by have:=aI.2;simp;omega) (by have:=aI.1;simp;omega)).vm (by omega));obtain⟨gy,et,ec,eC,eD,_,dG⟩:=Nt.ET (Ol am.o.row al.o (fun b q hm=>(List.mem_cons.1 hm).elim (fun h=>by have h1:=(am.o.row.lt b q).1;have h2:=db.o.1;omega) (fun h=>by obtain⟨e2,aH,h3⟩:=List.mem_map.1 h;exact(am.o.rb b q e2 (yO aH)).1 h3.symm))) (by omega:0<Es.length);injection ec with q1 _ q2;subst q1;subst q2;have e1:aa.cell? ⟨gy,k,none⟩=some (.pointer (some ⟨e.x,0,none⟩)):=dG k _ (by rw[List.getElem?_map,zY hkl,<-he];rfl);have j0:(0:Int)<=(k:Int):=by omega
       have j1:(k:Int)<(Es.length:Int):=by omega
       have cW:Hid (((Es.map Ent.u).take k).flatten.length+e.u.length<=16):=by unfold Hid;omega
       have aX:=zh hkl;replace kB:=zh kB;replace aM:=zh aM;replace bu:=zh bu;replace ar:=zh ar;replace bG:=zh bG;replace he:=zh he;replace a9:=zh a9;replace a1:=zh a1;replace bO:=zh bO;replace aC:=zh aC;replace cP:=zh cP;replace cL:=zh cL;replace bY:=zh bY;replace bt:=zh bt;replace aI:=zh aI;replace hD:=zh hD;clear dG;have u0:=aG.o.c0;have u1:=aG.o.c1;have u2:=aG.o.c2;have u9:=aG.o.lt
       go_wp2_with fail
       refine kB.o.mono ?_;rintro ex W5 ⟨rfl,w3,dI,dC⟩;obtain⟨Aa,Ab,ca,cb,la,dJ,az,ed,cq,bw⟩:=dC.slv aS.o ar.o bF;have bi:Hid (Kp [e.x] aa W5):=kp_trans dI dJ (fun y hy=>.inl hy);replace az:=zh az;clear dI dJ dC kB u0 u1 u2 u9 e1;have aK:Hid (Below w.heap.size w W5):=bi.o.to_below aE.o (fun x hx=>by simp at hx;omega);have bo:=zh (aj.o.kp bi.o (by have:=aI.o.2;simp;omega) (by have:=aI.o.1;simp;omega));have dt:=zh (inInt_kp cU.o bi.o (fun b o q=>by have:=(bE.o b o q).2.1;simpa using this));have kV:Hid (∀W,Below W5.heap.size W5 W->Calls Tryz.prog 45 #[.slice Aa e.u.length ca,.slice Ab e.u.length cb] W fun e1 w1=>(∃p c,e1=.returned (.tuple #[.slice p e.u.length c,.int .i64 0])/\InRow w1 p (AO e.u.length fun i=>C8 SQ (Ae s.cap) e.u val (e.u.getD i 0)))/\Below W.heap.size W w1):=fun W h=>Um aS.o aM.o bu.o cW.o bF (hE.o.below (aK.o.trans (h.mono aK.o.size))) ed (cq.below h) bw;have bd:Hid (Below W5.heap.size W5 W5.drew):=(zI _ _).drew;have cB:Hid (∀W,Below W5.heap.size W5 W->W.cell? ⟨e.x,1,none⟩=some (.slice Aa e.u.length ca)/\W.cell? ⟨e.x,2,none⟩=some (.slice Ab e.u.length cb)):=fun W h=>⟨(az.o.below h).c1,(az.o.below h).c2⟩;clear cq bw dU cU aj;have x1:=az.o.c1;have x2:=az.o.c2;have x9:=az.o.lt
       go_wp2_with fail
       go_region_held3 (fun W=>W.cell? ⟨e.x,1,none⟩=some (.slice Aa e.u.length ca)/\W.cell? ⟨e.x,2,none⟩=some (.slice Ab e.u.length cb)) (first|(with_reducible exact cB.o _ bd.o)|(with_reducible exact cB.o _ a6.o)|go_keep) (first|(go_at_call 45;refine(kV.o _ bd.o).mono ?_;rintro ex w8 ⟨⟨pS,cS,rfl,bC⟩,hb⟩;have a6:=zh (bd.o.trans (hb.mono bd.o.size));replace bC:=zh bC;clear hb))
       have cD:Hid (VMC w8 vb mb s.ps.length (I6 (Ae s.cap) e.u val 0) (C0+0)):=by rw[SJ];exact bo.o.below a6.o
       have d8:Hid (∀b o x,w8.cell? ⟨b,o,none⟩=some x->b≠mb):=fun b o x h=>cD.o.off h;have ei:=zh (az.o.below a6.o);have d0:=zh (dt.o.below a6.o);have ej:Hid (Below w.heap.size w w8):=aK.o.trans (a6.o.mono aK.o.size);have d1:Hid (Kp [e.x] aa w8):=bi.o.below a6.o;have es:=zh az.o.lt;clear bo dt az cB bd kV bi aK x1 x2 x9;have du:Hid (Kp [mb] w8 w8):=Kp.refl _ _
       go_wp2_with fail
       go_loopw [145] (fun jx wr=>∃(i:Nat),i<=e.u.length/\jx=.int .i64 (i:Int)/\Hid (Kp [mb] w8 wr)/\Hid (VMC wr vb mb s.ps.length (I6 (Ae s.cap) e.u val i) (C0+i))) (fun jx _=>e.u.length-(intOf jx).toNat)
       case atStart=>exact⟨0,zP _,rfl,du,cD⟩
       case round=>
        clear du cD;obtain⟨i,hi,rfl,aw,bq⟩:=hrel;obtain⟨aU,rfl⟩:∃z,z=wr:=⟨_,rfl⟩
        by_cases hil:i<e.u.length
        .obtain⟨sb,so,d6,b2,dQ⟩:=bC.o (by rw[Ag];omega);subst d6;obtain⟨t1,t2,t3⟩:=dQ i (by rw[Ag];exact hil);rw[BE]at t1 t2 t3;rw[D9 hil]at t1 t2 t3;have bB:sb≠mb:=d8.o sb _ _ t1;have t1:=(zR (a:=⟨sb,so+i*3,none⟩) (aw.o.block sb b2 (by simpa using bB))).trans t1;have t2:=(zR (a:=⟨sb,so+i*3+1,none⟩) (aw.o.block sb b2 (by simpa using bB))).trans t2;have t3:=(zR (a:=⟨sb,so+i*3+2,none⟩) (aw.o.block sb b2 (by simpa using bB))).trans t3;have t9:sb<aU.heap.size:=zJ b2 aw.o.size;obtain⟨ub,uo,bQ,a0,dS⟩:=(inInt_kp d0.o aw.o (fun b o q=>by have:=(bE.o b o q).2.2;simpa using this)) (by rw[zU];omega);have c9:ub≠mb:=(bE.o ub uo bQ).2.2;have e1:=dS i (by rw[zU];exact hil);rw[yH]at e1;have b0:=bG.o.1 _ (zN hil);have bs:=SK (L:=Ae s.cap) (val:=val) hil;obtain⟨p,hp⟩:∃p,p=e.u[i]:=⟨_,rfl⟩;rw[<-hp]at e1 b0 bs t1 t2 t3;replace hp:=zh hp;clear dS dQ;replace bs:=zh bs;replace bQ:=zh bQ;replace bB:=zh bB;replace c9:=zh c9;replace e1:=zh e1;replace a0:=zh a0;have j0:(0:Int)<=(i:Int):=by omega
         have j1:(i:Int)<(e.u.length:Int):=by omega
         obtain⟨q,hq⟩:∃q,q=C8 SQ (Ae s.cap) e.u val p:=⟨_,rfl⟩;rw[<-hq]at t1 t2 t3 bs;replace hq:=zh hq
         go_wp2_with fail
         have b5:=ei.o.kp aw.o (by have:=aI.o.1;simpa using this);rw[bQ.o]at b5;refine WJ vb mb s.ps.length (C0+i) p e.x ub uo e.u.length e.c i aU.heap.size q (I6 (Ae s.cap) e.u val i) (aU.alloc (.cells #[.bool (rq (q)).1,.string (rq (q)).2.1,.string (rq (q)).2.2] 34)) (bq.o.below ((zI _ _).alloc (zA _) _)) (by omega) (by omega) hil ((b5.alloc _).c0) ((b5.alloc _).lt) ((zR (a:=⟨ub,uo+i,none⟩) (heap_alloc_old aU _ a0.o)).trans e1.o) (Nat.lt_trans a0.o (by simp)) (Bk.new aU _ _) aI.o.1 c9.o (by have:=bq.o.lt;omega) ?_;intro _ _ _ _ _ _ _ _ _ we bp aF;have d2:Hid (Kp [mb] w8 we):=kp_trans (aw.o.alloc _) aF.o (fun y hy=>.inl hy);have cE:Hid (VMC we vb mb s.ps.length (I6 (Ae s.cap) e.u val (i+1)) (C0+(i+1))):=bp.o.congr fun x _=>(bs.o x).symm;clear bp aF aw bq t1 t2 t3 t9 b5;go_wp2;exact⟨⟨i+1,by omega,by go_num,d2,cE⟩,by simp only[intOf];omega⟩
        obtain rfl:i=e.u.length:=by omega
        have d3:Hid (Kp (mb::(Es.take (k+1)).map Ent.x) wt aU):=by
         have hm:∀y,y∈(Es.take (k+1)).map Ent.x<->y∈(Es.take k).map Ent.x\/y=e.x:=fun y=>by rw[zO aX.o,<-he.o,xG,xO];simp
         have h1:Kp (mb::(Es.take (k+1)).map Ent.x) wt aa:=⟨al.o.os,al.o.tape,al.o.output,al.o.size,fun b hb hx=>al.o.block b hb fun h=>hx ((List.mem_cons.1 h).elim (fun h=>List.mem_cons.2 (.inl h)) (fun h=>List.mem_cons.2 (.inr ((hm b).2 (.inl h)))))⟩;exact kp_trans (kp_trans h1 d1.o (fun y hy=>.inl (List.mem_cons.2 (.inr ((hm y).2 (.inr (by simpa using hy))))))) aw.o (fun y hy=>.inl (List.mem_cons.2 (.inl (by simpa using hy))))
        have d7:Hid (VMC aU vb mb s.ps.length (DN (Ae s.cap) (toN F) (Es.map Ent.u) (k+1)) (F.length+((Es.map Ent.u).take (k+1)).flatten.length)):=by
         have h:=bq.o;rw[Uy]at h;have e1:DN (Ae s.cap) (toN F) (Es.map Ent.u) (k+1)=C8 SQ (Ae s.cap) e.u val:=by rw[Nr (by rw[zU];exact aX.o),a9.o,<-a1.o]
         have e2:F.length+((Es.map Ent.u).take (k+1)).flatten.length=C0+e.u.length:=by rw[bO.o,zO (by rw[zU];exact aX.o:k<(Es.map Ent.u).length),a9.o,xk,zX,List.flatten_singleton,Nat.add_assoc]
         rw[e1,e2];exact h
        have dH:Hid (k+1<=Es.length):=aX.o;clear aw bq;go_wp2;exact⟨⟨k+1,dH.o,by go_num,d3,d7⟩,by have:=dH.o;simp only[intOf];omega⟩
      obtain rfl:k=Es.length:=by omega
      have ck:((Es.map Ent.u).take Es.length).flatten.length<=16:=by have h:=congrArg (fun l=>(List.flatten l).length) (xK Es.length (Es.map Ent.u));simp only[xk,zX]at h;have:=aq.o;omega
      have aF:DN (Ae s.cap) (toN F) (Es.map Ent.u) Es.length=Ln SQ s.ps.length (Ae s.cap) (toN F):=by unfold DN Ln;rw[CN,<-aV.o,yK (by rw[zU];exact zA _)]
      have aT:=aj.o.vm (by omega);rw[aF]at aT;replace aT:=zh aT;replace aF:=zh aF;replace ck:=zh ck;have a2:Hid (∀x,x∈mb::(Es.take Es.length).map Ent.x->w4.heap.size<=x):=fun x hx=>(List.mem_cons.1 hx).elim (fun h=>by rw[h];exact ye aY.o.1.symm) (fun h=>by obtain⟨e2,aH,rfl⟩:=List.mem_map.1 h;have h1:=(am.o.ent e2 (yO aH)).2.2;have h2:=an.o.size;omega);have aE:Hid (Below w.heap.size w aa):=al.o.to_below aR.o (fun x hx=>by have h1:=a2.o x hx;have h2:=bN.o.size;omega);have aG:Hid (Bk aa w.heap.size 25 (SC s Ap Ac Av cp cc cv)):=dA.o.kp al.o (fun h=>by have h1:=a2.o _ h;have h2:=bJ.o;omega);obtain⟨ev,cN⟩:∃ev,ev=Ln SQ s.ps.length (Ae s.cap) (toN F):=⟨_,rfl⟩;rw[<-cN]at aT bh;replace cN:=zh cN;have ee:=FL 27 Tryz.underlying27 s.ps.length (by omega);have kva:Hid (∀W (p:Nat),p<s.ps.length->Below aa.heap.size aa W->Calls Tryz.prog 43 #[.int .i64 (p:Int),.pointer (some ⟨vb,0,none⟩)] W fun e w'=>e=.returned (.agg #[.bool (rq (ev p)).1,.string (rq (ev p)).2.1,.string (rq (ev p)).2.2])/\Below W.heap.size W w'):=fun W p hp h=>Jt s.ps.length ev vb mb p hp (by omega) W (hE.o.below (aE.o.trans (h.mono aE.o.size))) (aT.o.below h);obtain⟨ob,a7⟩:∃x,x=aa.heap.size:=⟨_,rfl⟩;obtain⟨dV,aQ⟩:∃W,W=(aa.alloc (.cells (AA s.ps.length fun _=>zraw).toArray 34)):=⟨_,rfl⟩;have b6:Hid (Below aa.heap.size aa dV):=by rw[aQ];exact(zI _ aa).alloc (zA _) _
      have b9:Hid (RowB dV ob s.ps.length fun j=>if j<0 then rq (ev j) else zraw):=by rw[aQ,a7];refine RowB.congr (r:=fun _=>zraw) (yM aa _) fun j _=>?_;rw[zF (yJ _)]
      have u0:=aG.o.c0;have u1:=aG.o.c1;have u2:=aG.o.c2;have u9:=aG.o.lt
      go_wp2_with fail
      (try rw[<-aQ])
      (try rw[<-a7])
      replace aQ:=zh aQ;replace a7:=zh a7;clear ee u0 u1 u2 u9
      go_loopw [167] (fun ix wr=>∃(k:Nat),k<=s.ps.length/\ix=.int .i64 (k:Int)/\Hid (Below aa.heap.size aa wr)/\Hid (RowB wr ob s.ps.length fun j=>if j<k then rq (ev j) else zraw)) (fun ix _=>s.ps.length-(intOf ix).toNat)
      case atStart=>exact⟨0,zP _,rfl,b6,b9⟩
      case round=>
       clear b6 b9;obtain⟨k,hk,rfl,ao,bn⟩:=hrel;obtain⟨dj,rfl⟩:∃z,z=wr:=⟨_,rfl⟩
       by_cases hkm:k<s.ps.length
       .have k0:=zh (kva.o dj k hkm ao.o);have q0:(0:Int)<=(k:Int):=by omega
        have q1:(k:Int)<(s.ps.length:Int):=by omega
        go_wp2_with fail
        refine k0.o.mono ?_;rintro e w6 ⟨rfl,hb⟩;have dl:Hid (Below aa.heap.size aa w6):=ao.o.trans (hb.mono ao.o.size);have a4:Hid (RowB w6 ob s.ps.length fun j=>if j<k then rq (ev j) else zraw):=bn.o.below hb bn.o.lt;clear hb k0 ao bn;obtain⟨r1,r2,r3⟩:=a4.o.cell hkm;have f1:=a4.o.frozen (k*3);have f2:=a4.o.frozen (k*3+1);have f3:=a4.o.frozen (k*3+2);have r9:=a4.o.lt;have bz:Hid (aa.heap.size<=ob):=ye a7.o.symm;have dW:Hid (Below aa.heap.size aa (((w6.setCell ⟨ob,k*3,none⟩ (.bool (rq (ev k)).1)).setCell ⟨ob,k*3+1,none⟩ (.string (rq (ev k)).2.1)).setCell ⟨ob,k*3+2,none⟩ (.string (rq (ev k)).2.2))):=((dl.o.setCell (p:=⟨ob,k*3,none⟩) bz.o _).setCell (p:=⟨ob,k*3+1,none⟩) bz.o _).setCell (p:=⟨ob,k*3+2,none⟩) bz.o _;have d4:Hid (RowB (((w6.setCell ⟨ob,k*3,none⟩ (.bool (rq (ev k)).1)).setCell ⟨ob,k*3+1,none⟩ (.string (rq (ev k)).2.1)).setCell ⟨ob,k*3+2,none⟩ (.string (rq (ev k)).2.2)) ob s.ps.length fun j=>if j<k+1 then rq (ev j) else zraw):=(a4.o.set hkm (rq (ev k))).congr fun j _=>by by_cases c:j=k;(· rw[zG c,zG (by omega),c]);(· rw[zF c];by_cases d:j<k;(· rw[zG d,zG (by omega)]);(· rw[zF d,zF (by omega)]))
        generalize (if k<k then rq (ev k) else zraw)=rz at r1 r2 r3;go_wp2;exact⟨⟨k+1,by omega,by go_num,dW,d4⟩,by simp only[intOf];omega⟩
       obtain rfl:k=s.ps.length:=by omega
       have d5:Hid (RowB dj ob s.ps.length fun j=>rq (ev j)):=bn.o.congr fun j hj=>by rw[zG hj]
       have dY:Hid (Below w.heap.size w dj):=aE.o.trans (ao.o.mono aE.o.size);have bz:Hid (w.heap.size<=ob):=by rw[a7.o];exact aE.o.size
       clear bn ao;go_wp2;rw[yA];go_ret2;exact bh.o _ _ ob bZ.o dE.o rfl bz.o d5.o dY.o
end Sh
end
section
namespace Sh
open Nt Ci
def hL1:List Lp:=[(0,3,1/2),(1,0,1/2)]
def hL2:List Lp:=[(0,1,1/2),(0,3,1/2),(1,0,1/2)]
def hL3:List Lp:=[(0,1,1),(1,0,1)]
def hL4:List Lp:=[(0,3,1),(2,0,1/2),(2,1,1/2)]
theorem Ob{e:Nat->Rat}(h:Eff 4 hL1 [3] e):e 0=6/12/\e 1=3/12/\e 2=0/\e 3=1:=by
 have h3:=h.listed 3 (by simp);have h0:=h.sum 0 (by omega) (by simp);have h1:=h.sum 1 (by omega) (by simp);have h2:=h.sum 2 (by omega) (by simp);simp[hL1,An]at h0 h1 h2;refine⟨?_,?_,?_,h3⟩<;>grind
end Sh
end
section
open Go.RowKit Go.Shelf
namespace Sh
open Nt Ci
noncomputable def ev(s:SR)(F:List Int):Nat->Rat:=Ln SQ s.ps.length (Ae s.cap) (toN F)
theorem VG{s:SR}{F:List Int}(a:As s=true)(h:BL s.ps.length (Ad s) (toN F)=false):Eff s.ps.length (Ae s.cap) (toN F) (ev s F):=by
 rw[<-CN]at h;exact Sd (Cq a) MY (Nd h).2
theorem LA{s:SR}(F:List Int)(a:As s=true)(hn:s.ps.length<=8):BL s.ps.length (Ad s) (toN F)=false:=by
 rw[<-CN];exact Sm (Cq a) hn
theorem ST(s:SR)(Ap Ac Av Af:Option Addr)(cp cc cv cf:Nat)(F:List Int)(w:World)(hE:Env w)(hs:StIn w s Ap Ac Av)(hn:s.ps.length<=8)(d:s.cap.length<=300)(hF:InInt w Af F)(a:F.length<=140737488355328):
 Calls Tryz.prog 13 #[.agg #[.slice Ap s.ps.length cp,.slice Ac s.cap.length cc,.slice Av s.vot.length cv],.slice Af F.length cf] w fun e w' =>
  (if As s=true/\BP s.ps.length F=true then ∃b,e=.returned (.tuple #[.slice (some ⟨b,0,none⟩) s.ps.length s.ps.length,.int .i64 0])/\w.heap.size<=b/\RowB w' b s.ps.length fun p=>rq (ev s F p)
   else e=.returned (.tuple #[.slice none 0 0,.int .i64 1]))/\Below w.heap.size w w' :=
 (U1 s Ap Ac Av Af cp cc cv cf F w hE hs d hF a).mono fun e w' h=>⟨by
   by_cases hgd:As s=true/\BP s.ps.length F=true
   .rw[zG hgd];have h1:=h.1;rw[zG hgd,zF (by rw[LA F hgd.1 hn];decide)]at h1;exact h1
   rw[zF hgd];have h1:=h.1;rw[zF hgd]at h1;exact h1,h.2⟩
end Sh
end
section
open Go.RowKit Go.Shelf
namespace Bd
open Nt Ci Sh
def lM:List Lk:=[(0,1,false,⟨#[49]⟩,⟨#[50]⟩),(0,2,false,⟨#[49]⟩,⟨#[50]⟩),(1,0,false,⟨#[49]⟩,⟨#[50]⟩)]
def sM:SR:=⟨[⟨#[97]⟩,⟨#[98]⟩,⟨#[112]⟩],lM,[]⟩
def LM:List Lp:=[(0,1,1/2),(0,2,1/2),(1,0,1/2)]
theorem DC:As sM=true:=by decide +kernel
theorem Hx:BP (sM.ps.length:Int) [2]=true:=by decide +kernel
theorem Km:Ae sM.cap=LM:=by decide +kernel
theorem SU:Ad sM=[(1,0),(2,0),(0,1)]:=by decide +kernel
theorem Kn:toN [2]=[2]:=rfl
def q2:Rat:=2/3
def q1:Rat:=1/3
def v3(a b c:Rat)(p:Nat):Rat:=if p=0 then a else if p=1 then b else if p=2 then c else 0
def V3(a b c:Rat):List Raw:=[rq a,rq b,rq c]
theorem Ko(a b c:Rat):AY (V3 a b c)=v3 a b c:=by
 funext p
 match p with
 |0=>exact Ik a
 |1=>exact Ik b
 |2=>exact Ik c
 |p+3=>show AY (V3 a b c) (p+3)=0;exact zF (by show ¬p+3<3;omega)
theorem U2(v:Nat->Rat):An 0 v LM=1/2*v 1+1/2*v 2:=by simp[LM,An];grind
theorem U5(v:Nat->Rat):An 1 v LM=1/2*v 0:=by simp[LM,An];grind
theorem Nv{a b c:Rat}{R:List Int}(hR:R.length=0)(hf:Cl (V3 a b c)=true):Chk sM [2] true (V3 a b c) R<->(1/2*b+1/2*c<=a/\1/2*a<=b/\1<=c):=by
 unfold Chk;rw[Ko,Km,Kn];constructor
 .rintro⟨_,_,_,_,h⟩;have h0:=((h 0 (by decide)).1 rfl).2 (by decide);have h1:=((h 1 (by decide)).1 rfl).2 (by decide);have h2:=((h 2 (by decide)).1 rfl).1 (by decide);rw[U2]at h0;rw[U5]at h1;exact⟨h0,h1,h2⟩
 rintro⟨h0,h1,h2⟩;refine⟨⟨DC,Hx⟩,rfl,hR,hf,fun p hp=>⟨fun _=>?_,fun h=>by cases h⟩⟩
 match p,hp with
 |0,_=>exact⟨fun h=>absurd h (by decide),fun _=>by rw[U2];exact h0⟩
 |1,_=>exact⟨fun h=>absurd h (by decide),fun _=>by rw[U5];exact h1⟩
 |2,_=>exact⟨fun _=>h2,fun h=>absurd (by decide:(2:Nat)∈[2]) h⟩
 |p+3,hp=>exact absurd hp (by show ¬p+3<3;omega)
theorem Ox{a b c:Rat}(ha:a≠0)(hb:b≠0)(hc:c≠0)(hf:Cl (V3 a b c)=true)(h0:a<=1/2*b+1/2*c)(h1:b<=1/2*a)(h2:c<=1):Chk sM [2] false (V3 a b c) [1,2,0]:=by
 unfold Chk;rw[Ko,Km,Kn];refine⟨⟨DC,Hx⟩,rfl,rfl,hf,fun p hp=>⟨fun h=>(by cases h),fun _=>?_⟩⟩
 match p,hp with
 |0,_=>exact⟨fun h=>absurd h ha,fun _ h=>absurd h (by decide),fun _ _=>⟨by decide,by rw[U2];exact h0,(0,2,1/2),by simp[LM],rfl,by decide,by decide,hc⟩⟩
 |1,_=>exact⟨fun h=>absurd h hb,fun _ h=>absurd h (by decide),fun _ _=>⟨by decide,by rw[U5];exact h1,(1,0,1/2),by simp[LM],rfl,by decide,by decide,ha⟩⟩
 |2,_=>exact⟨fun h=>absurd h hc,fun _ _=>⟨rfl,h2⟩,fun _ h=>absurd (by decide:(2:Nat)∈[2]) h⟩
 |p+3,hp=>exact absurd hp (by show ¬p+3<3;omega)
theorem VH{a b c:Rat}(hb:b≠0):¬Chk sM [2] false (V3 a b c) [2,1,0]:=by
 unfold Chk;rw[Ko,Km,Kn];rintro⟨_,_,_,_,h⟩;obtain⟨_,_,x,hx,h1,h2,h3,_⟩:=((h 1 (by decide)).2 rfl).2.2 hb (by decide);simp only[LM,xW,xI,vM]at hx
 rcases hx with rfl|rfl|rfl
 .cases h1
 .cases h1
 exact absurd h3 (by decide)
theorem J9:Cl (V3 q2 q1 1)=true:=by decide +kernel
theorem Oy:Cl (V3 (1/2) (1/4) 1)=true:=by decide +kernel
theorem SV:Cl (V3 1 1 1)=true:=by decide +kernel
theorem SW:ev sM [2] 0=q2/\ev sM [2] 1=q1/\ev sM [2] 2=1:=by
 have h:=VG (F:=[2]) DC (LA _ DC (by decide));rw[Km,Kn]at h;have h2:=h.listed 2 (by decide);have h0:=h.sum 0 (by decide) (by decide);have h1:=h.sum 1 (by decide) (by decide);rw[U2]at h0;rw[U5]at h1;refine⟨?_,?_,h2⟩
 .show _=(2/3:Rat);grind
 show _=(1/3:Rat);grind
def oM(x:Nat):Int:=if x=0 then 1 else if x=1 then 2 else 0
theorem SX:∀x,x<3->rk (Ad sM) (toN [2]) x=oM x:=fun x hx=>by
 have hE:InN 3 (Ad sM):=Ic DC;rw[SU]at hE ⊢;refine Lm (n:=3) (fun f hf=>?_) hE (by decide) ?_ hx
 .have:f=2:=by simpa [toN] using hf
  subst this;decide
 have:∀x,x<3->oM x=-1\/(oM x=0/\x∈toN [2])\/∃e,e∈[(1,0),(2,0),(0,1)]/\e.2=x/\0<=oM e.1/\oM x=oM e.1+1:=by decide
 exact this
theorem Kr(A B:Option Addr)(n m ca cb:Nat)(h:n≠m)(w:World):
 Calls Tryz.prog 58 #[.slice A n ca,.slice B m cb] w fun e w'=>e=.returned (.bool false)/\Below w.heap.size w w':=by
 have h1:((n:Int)==(m:Int))=false:=by rw[zM];omega
 have h2:¬((n:Int)=(m:Int)):=by omega
 replace h2:=zh h2;go_enter Tryz.func58,Tryz.ntmps58;go_wp2;go_ret;exact⟨rfl,zI _ _⟩
theorem IO(A B:Option Addr)(ca cb:Nat)(l m:List Raw)(h:l.length=m.length)(w:World)(hl:InRow w A l)(hm:InRow w B m)(af:l.length<9223372036854775807):
 Calls Tryz.prog 58 #[.slice A l.length ca,.slice B m.length cb] w fun e w'=>e=.returned (.bool (decide (l=m)))/\Below w.heap.size w w':=by
 rw[<-h];go_enter Tryz.func58,Tryz.ntmps58;go_wp2;replace hl:=zh hl;replace hm:=zh hm
 go_loopw [5] (fun i wr=>∃y q:Nat,y<=l.length/\i=.int .i64 (y:Int)/\wr=w.drewN q/\Hid (l.take y=m.take y)) (fun i _=>l.length-(intOf i).toNat)
 case atStart=>exact⟨0,0,zP _,rfl,rfl,rfl⟩
 case round=>
  obtain⟨y,q,hy,rfl,rfl,hI⟩:=hrel
  by_cases hlt:y<l.length
  .obtain ⟨b,o,rfl,hb,hc⟩:=hl.o (by omega);obtain⟨b2,o2,rfl,ag,a⟩:=hm.o (by omega);obtain⟨e1,e2,e3⟩:=hc y hlt;obtain⟨f1,f2,f3⟩:=a y (by omega);have ad:∃x,x=l[y]:=⟨_,rfl⟩;have ae:∃z,z=m[y]'(by omega):=⟨_,rfl⟩;obtain⟨⟨g1,n1,d1⟩,hx⟩:=ad;obtain⟨⟨g2,n2,d2⟩,hz⟩:=ae;rw[<-hx]at e1 e2 e3;rw[<-hz]at f1 f2 f3;replace e1:(w.drewN q).cell? ⟨b,o+y*3,none⟩=some (.bool g1):=e1;replace e2:(w.drewN q).cell? ⟨b,o+y*3+1,none⟩=some (.string n1):=e2;replace e3:(w.drewN q).cell? ⟨b,o+y*3+2,none⟩=some (.string d1):=e3;replace f1:(w.drewN q).cell? ⟨b2,o2+y*3,none⟩=some (.bool g2):=f1;replace f2:(w.drewN q).cell? ⟨b2,o2+y*3+1,none⟩=some (.string n2):=f2;replace f3:(w.drewN q).cell? ⟨b2,o2+y*3+2,none⟩=some (.string d2):=f3;have s1:(0:Int)<=(y:Int):=by omega
   have s2:(y:Int)<(l.length:Int):=by omega
   replace hx:=zh hx;replace hz:=zh hz;clear hc a;generalize d:w.drewN q=wq at *
   by_cases q1:g1=g2<;>by_cases q2:n1.toList=n2.toList<;>by_cases q3:d1.toList=d2.toList
   all_goals (
    go_wp2_with fail
    go_quiet (fail)
    go_wp2)
   .obtain rfl:=q1;obtain rfl:n1=n2:=Oa q2;obtain rfl:d1=d2:=Oa q3;refine⟨⟨y+1,q+nq,by omega,by go_num,by rw[<-d,World.drewN_drewN],?_⟩,by simp only[intOf];omega⟩
    show l.take (y+1)=m.take (y+1)
    rw[zO hlt,zO (by omega),hI.o,<-hx.o,<-hz.o]
   all_goals (
    have aa:Hid (l≠m):=fun e=>by
     have e3:(g1,n1,d1)=(g2,n2,d2):=by rw[hx.o,hz.o];exact List.getElem_of_eq e _
     simp only[Prod.mk.injEq]at e3;obtain⟨rfl,rfl,rfl⟩:=e3;simp at q1 q2 q3
    go_ret;exact⟨by rw[zD aa.o];rfl,by rw[<-d];exact Cs (Cs (zI _ w) q) nq⟩)
  obtain rfl:y=l.length:=by omega
  have hd:Hid (l=m):=by
   have:=hI.o
   rwa [yK (zA _),yK (by omega)]at this
  go_wp2;go_ret;exact⟨by rw[zH hd.o];rfl,Cs (zI _ w) q⟩
theorem Ks(A B:Option Addr)(ca cb:Nat)(l m:List Raw)(w:World)(hl:InRow w A l)(hm:InRow w B m)(a:l.length<9223372036854775807):
 Calls Tryz.prog 58 #[.slice A l.length ca,.slice B m.length cb] w fun e w'=>e=.returned (.bool (decide (l=m)))/\Below w.heap.size w w':=by
 by_cases h:l.length=m.length
 .exact IO A B ca cb l m h w hl hm a
 rw[zD (fun e=>h (by rw[e]))];exact Kr A B _ _ ca cb h w
theorem Nw(ab ab':Bool)(Aw Ar Aw' Ar':Option Addr)(cw cr cw' cr':Nat)(V V':List Raw)(R R':List Int)(w:World)(hV:InRow w Aw V)(ag:InRow w Aw' V')(hR:InInt w Ar R)(af:InInt w Ar' R')
 (l1:V.length<9223372036854775807)(l2:R.length<=140737488355328):
 Calls Tryz.prog 20 #[.agg #[.bool ab,.slice Aw V.length cw,.slice Ar R.length cr],.agg #[.bool ab',.slice Aw' V'.length cw',.slice Ar' R'.length cr']] w fun e w'=>e=.returned (.bool (decide (ab=ab')&&(decide (V=V')&&decide (R=R'))))/\Below w.heap.size w w':=by
 have a:Hid (Below w.heap.size w ((w.alloc (.cells #[.bool ab,.slice Aw V.length cw,.slice Ar R.length cr] 29)).alloc (.cells #[.bool ab',.slice Aw' V'.length cw',.slice Ar' R'.length cr'] 29))):=((zI _ w).alloc (zA _) _).alloc (by simp) _;have k1:=zh (Ks Aw Aw' cw cw' V V' ((w.alloc (.cells #[.bool ab,.slice Aw V.length cw,.slice Ar R.length cr] 29)).alloc (.cells #[.bool ab',.slice Aw' V'.length cw',.slice Ar' R'.length cr'] 29)) (hV.below a.o (zA _)) (ag.below a.o (zA _)) l1);have k2:=zh (fun W (h:Below w.heap.size w W)=>Sw Ar Ar' cr cr' R R' W (hR.below h) (af.below h) l2);have ah:Hid (Bk ((w.alloc (.cells #[.bool ab,.slice Aw V.length cw,.slice Ar R.length cr] 29)).alloc (.cells #[.bool ab',.slice Aw' V'.length cw',.slice Ar' R'.length cr'] 29)) w.heap.size 29 [.bool ab,.slice Aw V.length cw,.slice Ar R.length cr]):=(Bk.new w _ _).alloc _
 have ai:Hid (Bk ((w.alloc (.cells #[.bool ab,.slice Aw V.length cw,.slice Ar R.length cr] 29)).alloc (.cells #[.bool ab',.slice Aw' V'.length cw',.slice Ar' R'.length cr'] 29)) (w.heap.size+1) 29 [.bool ab',.slice Aw' V'.length cw',.slice Ar' R'.length cr']):=by
  have h:=Bk.new (w.alloc (.cells #[.bool ab,.slice Aw V.length cw,.slice Ar R.length cr] 29)) 29 [.bool ab',.slice Aw' V'.length cw',.slice Ar' R'.length cr'];rw[zK]at h;exact h
 have m:(ab==ab')=decide (ab=ab'):=rfl;generalize decide (V=V')=d1 at k1 ⊢;generalize decide (R=R')=d2 at k2 ⊢
 by_cases h:ab=ab'
 .rw [zH h,yo];rw[zH h]at m;replace h:=zh h
  cases d1 with
  |false=>
   go_enter Tryz.func20,Tryz.ntmps20
   go_wp2_with fail
   refine k1.o.mono ?_;rintro e w2 ⟨rfl,hb⟩;have ad:=zh (a.o.trans (hb.mono a.o.size));clear hb;go_wp2;go_ret;exact⟨rfl,ad.o⟩
  |true=>
   rw[yo];go_enter Tryz.func20,Tryz.ntmps20
   go_wp2_with fail
   refine k1.o.mono ?_;rintro e w2 ⟨rfl,hb⟩;have ad:=zh (a.o.trans (hb.mono a.o.size));have d:=ah.o.below hb;have aa:=ai.o.below hb;have u0:=d.c0;have u1:=d.c1;have u2:=d.c2;have u9:=d.lt;have v0:=aa.c0;have v1:=aa.c1;have v2:=aa.c2;have v9:=aa.lt;clear hb d aa
   go_wp2_with fail
   refine(k2.o _ ad.o).mono ?_;rintro e w3 ⟨rfl,q,rfl⟩;have ae:=zh (Cs ad.o q);clear u0 u1 u2 u9 v0 v1 v2 v9;go_wp2;go_ret;exact⟨rfl,ae.o⟩
 rw[zD h,xv];rw[zD h]at m;replace h:=zh h;go_enter Tryz.func20,Tryz.ntmps20;go_wp2;go_ret;exact⟨rfl,a.o⟩
theorem Hy{w:World}{b n:Nat}{o:Nat->Int}{p:Addr}(h:RoI w b n o)(hp:b≠p.block)(v:Value):RoI (w.setCell p v) b n o:=h.of_block (by simp) (zg _ _ _ _ hp)
theorem SY(s:SR)(Ap Ac Av Af:Option Addr)(cp cc cv cf:Nat)(F:List Int)(w:World)(r:Nat->Raw)(ke:∀W,Below w.heap.size w W->Calls Tryz.prog 13 #[.agg #[.slice Ap s.ps.length cp,.slice Ac s.cap.length cc,.slice Av s.vot.length cv],.slice Af F.length cf] W fun e w'=>(∃b,e=.returned (.tuple #[.slice (some ⟨b,0,none⟩) s.ps.length s.ps.length,.int .i64 0])/\RowB w' b s.ps.length r/\W.heap.size<=b)/\Below W.heap.size W w'):
 Calls Tryz.prog 18 #[.agg #[.slice Ap s.ps.length cp,.slice Ac s.cap.length cc,.slice Av s.vot.length cv],.slice Af F.length cf] w fun e w'=>(∃b,e=.returned (.tuple #[.agg #[.bool true,.slice (some ⟨b,0,none⟩) s.ps.length s.ps.length,.slice none 0 0],.int .i64 0])/\RowB w' b s.ps.length r/\w.heap.size<=b)/\Below w.heap.size w w':=by
 have ad:Hid (Below w.heap.size w ((w.alloc (.cells #[.slice Ap s.ps.length cp,.slice Ac s.cap.length cc,.slice Av s.vot.length cv] 25)).alloc (.cells #[.bool false,.slice none 0 0,.slice none 0 0] 29))):=((zI _ w).alloc (zA _) _).alloc (by simp) _;have al:Hid (Bk ((w.alloc (.cells #[.slice Ap s.ps.length cp,.slice Ac s.cap.length cc,.slice Av s.vot.length cv] 25)).alloc (.cells #[.bool false,.slice none 0 0,.slice none 0 0] 29)) w.heap.size 25 [.slice Ap s.ps.length cp,.slice Ac s.cap.length cc,.slice Av s.vot.length cv]):=(Bk.new w _ _).alloc _
 have ah:Hid (Bk ((w.alloc (.cells #[.slice Ap s.ps.length cp,.slice Ac s.cap.length cc,.slice Av s.vot.length cv] 25)).alloc (.cells #[.bool false,.slice none 0 0,.slice none 0 0] 29)) (w.heap.size+1) 29 [.bool false,.slice none 0 0,.slice none 0 0]):=by
  have h:=Bk.new (w.alloc (.cells #[.slice Ap s.ps.length cp,.slice Ac s.cap.length cc,.slice Av s.vot.length cv] 25)) 29 [.bool false,.slice none 0 0,.slice none 0 0];rw[zK]at h;exact h
 have k1:=zh (ke _ ad.o);clear ke;go_enter Tryz.func18,Tryz.ntmps18
 go_wp2_with fail
 refine k1.o.mono ?_;rintro e w2 ⟨⟨b,rfl,d,ag⟩,hb⟩;have aj:=zh (ad.o.trans (hb.mono ad.o.size));have a:=zh (ah.o.below hb);have aa:b≠w.heap.size+1:=by simp at ag;omega
 have ai:w.heap.size<=b:=by simp at ag;omega
 replace d:=zh d;clear hb k1 ad al ah ag;have r0:=a.o.c0;have r1:=a.o.c1;have r2:=a.o.c2;have r9:=a.o.lt;have am:=a.o.frozen 0;have an:=a.o.frozen 1;have ao:=a.o.frozen 2;have ak:Hid (Below w.heap.size w (((w2.setCell ⟨w.heap.size+1,0,none⟩ (.bool true)).setCell ⟨w.heap.size+1,1,none⟩ (.slice (some ⟨b,0,none⟩) s.ps.length s.ps.length)).setCell ⟨w.heap.size+1,2,none⟩ (.slice none 0 0))):=(((aj.o.setCell (p:=⟨w.heap.size+1,0,none⟩) (by simp) _).setCell (p:=⟨w.heap.size+1,1,none⟩) (by simp) _).setCell (p:=⟨w.heap.size+1,2,none⟩) (by simp) _);have ae:Hid (Bk (((w2.setCell ⟨w.heap.size+1,0,none⟩ (.bool true)).setCell ⟨w.heap.size+1,1,none⟩ (.slice (some ⟨b,0,none⟩) s.ps.length s.ps.length)).setCell ⟨w.heap.size+1,2,none⟩ (.slice none 0 0)) (w.heap.size+1) 29 [.bool true,.slice (some ⟨b,0,none⟩) s.ps.length s.ps.length,.slice none 0 0]):=(Bk.set (Bk.set (Bk.set a.o 0 _) 1 _) 2 _);have af:Hid (RowB (((w2.setCell ⟨w.heap.size+1,0,none⟩ (.bool true)).setCell ⟨w.heap.size+1,1,none⟩ (.slice (some ⟨b,0,none⟩) s.ps.length s.ps.length)).setCell ⟨w.heap.size+1,2,none⟩ (.slice none 0 0)) b s.ps.length r):=((d.o.far aa _).far aa _).far aa _;go_wp2;have s0:=ae.o.c0;have s1:=ae.o.c1;have s2:=ae.o.c2;have s9:=ae.o.lt;refine zf (v:=.tuple #[.agg #[.bool true,.slice (some ⟨b,0,none⟩) s.ps.length s.ps.length,.slice none 0 0],.int .i64 0]) (by simp[results,Tryz.results18,go_sem,s0,s1,s2]) rfl ?_;exact⟨⟨b,rfl,af.o,ai⟩,ak.o⟩
theorem SZ(s:SR)(Ap Ac Av Af:Option Addr)(cp cc cv cf:Nat)(F:List Int)(w:World)(r:Nat->Raw)(aq:Nat->Int)(ke:∀W,Below w.heap.size w W->Calls Tryz.prog 18 #[.agg #[.slice Ap s.ps.length cp,.slice Ac s.cap.length cc,.slice Av s.vot.length cv],.slice Af F.length cf] W fun e w'=>(∃b,e=.returned (.tuple #[.agg #[.bool true,.slice (some ⟨b,0,none⟩) s.ps.length s.ps.length,.slice none 0 0],.int .i64 0])/\RowB w' b s.ps.length r/\W.heap.size<=b)/\Below W.heap.size W w')
 (kr:∀W,Below w.heap.size w W->Calls Tryz.prog 23 #[.agg #[.slice Ap s.ps.length cp,.slice Ac s.cap.length cc,.slice Av s.vot.length cv],.slice Af F.length cf] W fun e w'=>(∃b,e=.returned (.tuple #[.slice (some ⟨b,0,none⟩) s.ps.length s.ps.length,.int .i64 0])/\RoI w' b s.ps.length aq/\W.heap.size<=b)/\Below W.heap.size W w'):
 Calls Tryz.prog 17 #[.agg #[.slice Ap s.ps.length cp,.slice Ac s.cap.length cc,.slice Av s.vot.length cv],.slice Af F.length cf] w fun e w'=>(∃b b2,e=.returned (.tuple #[.agg #[.bool false,.slice (some ⟨b,0,none⟩) s.ps.length s.ps.length,.slice (some ⟨b2,0,none⟩) s.ps.length s.ps.length],.int .i64 0])/\RowB w' b s.ps.length r/\RoI w' b2 s.ps.length aq)/\Below w.heap.size w w':=by
 have aj:Hid (Below w.heap.size w ((w.alloc (.cells #[.slice Ap s.ps.length cp,.slice Ac s.cap.length cc,.slice Av s.vot.length cv] 25)).alloc (.cells #[.bool false,.slice none 0 0,.slice none 0 0] 29))):=((zI _ w).alloc (zA _) _).alloc (by simp) _;have aE:Hid (Bk ((w.alloc (.cells #[.slice Ap s.ps.length cp,.slice Ac s.cap.length cc,.slice Av s.vot.length cv] 25)).alloc (.cells #[.bool false,.slice none 0 0,.slice none 0 0] 29)) w.heap.size 25 [.slice Ap s.ps.length cp,.slice Ac s.cap.length cc,.slice Av s.vot.length cv]):=(Bk.new w _ _).alloc _
 have aA:Hid (Bk ((w.alloc (.cells #[.slice Ap s.ps.length cp,.slice Ac s.cap.length cc,.slice Av s.vot.length cv] 25)).alloc (.cells #[.bool false,.slice none 0 0,.slice none 0 0] 29)) (w.heap.size+1) 29 [.bool false,.slice none 0 0,.slice none 0 0]):=by
  have h:=Bk.new (w.alloc (.cells #[.slice Ap s.ps.length cp,.slice Ac s.cap.length cc,.slice Av s.vot.length cv] 25)) 29 [.bool false,.slice none 0 0,.slice none 0 0];rw[zK]at h;exact h
 have k1:=zh (ke _ aj.o);replace kr:=zh kr;clear ke;go_enter Tryz.func17,Tryz.ntmps17
 go_wp2_with fail
 refine k1.o.mono ?_;rintro e w2 ⟨⟨b,rfl,d,aG⟩,hb⟩;have ao:=hb.size;have aK:=d.lt;have ai:b≠w.heap.size+1:=by simp at aG;omega
 have aL:b≠w2.heap.size:=by omega
 have aM:w2.heap.size≠w.heap.size+1:=by simp at ao;omega
 have aH:=aM.symm;have aQ:w.heap.size<=w2.heap.size:=by simp at ao;omega
 have aO:w.heap.size≠w2.heap.size:=by simp at ao;omega
 have aR:=aO.symm;have aa:=aE.o.below hb;have u0:=aa.c0;have u1:=aa.c1;have u2:=aa.c2;have u9:=aa.lt;clear aa;obtain⟨w3,ad⟩:∃X,X=w2.alloc (.cells #[.bool false,.slice (some ⟨b,0,none⟩) s.ps.length s.ps.length,.slice none 0 0] 29):=⟨_,rfl⟩;have au:=aj.o.trans (hb.mono aj.o.size);have ak:Hid (Below w.heap.size w w3):=by rw[ad];exact au.alloc au.size _
 have ay:Hid (Bk w3 w2.heap.size 29 [.bool false,.slice (some ⟨b,0,none⟩) s.ps.length s.ps.length,.slice none 0 0]):=by rw[ad];exact Bk.new _ _ _
 have av:Hid (Bk w3 (w.heap.size+1) 29 [.bool false,.slice none 0 0,.slice none 0 0]):=by rw[ad];exact(aA.o.below hb).alloc _
 have ae:Hid (RowB w3 b s.ps.length r):=by rw[ad];exact d.alloc _
 have k3:=zh (kr.o _ ak.o);replace d:=zh d;clear hb k1 kr aj aE aA ao aG au aK;rw[ad]at k3
 go_wp2_with fail
 refine k3.o.mono ?_;rintro e w4 ⟨⟨b2,rfl,al,ar⟩,hb⟩;rw[<-ad]at hb ar;have az:=zh (ak.o.trans (hb.mono ak.o.size));have af:=zh (ay.o.below hb);have aB:=zh (av.o.below hb);have ag:=zh (ae.o.below hb ae.o.lt);have aP:=ay.o.lt;have aN:=av.o.lt;have aF:b2≠w2.heap.size:=by omega
 have ah:b2≠w.heap.size+1:=by omega
 replace al:=zh al;replace ad:=zh ad;clear hb k3 u0 u1 u2 u9 ak ay av ae ar aP aN d;have x0:=af.o.c0;have x1:=af.o.c1;have x2:=af.o.c2;have x9:=af.o.lt;have aV:=af.o.frozen 2;have an:Hid (Bk (w4.setCell ⟨w2.heap.size,2,none⟩ (.slice (some ⟨b2,0,none⟩) s.ps.length s.ps.length)) w2.heap.size 29 [.bool false,.slice (some ⟨b,0,none⟩) s.ps.length s.ps.length,.slice (some ⟨b2,0,none⟩) s.ps.length s.ps.length]):=af.o.set 2 _;have aI:Hid (Below w.heap.size w (w4.setCell ⟨w2.heap.size,2,none⟩ (.slice (some ⟨b2,0,none⟩) s.ps.length s.ps.length))):=az.o.setCell (p:=⟨w2.heap.size,2,none⟩) aQ _;have a:Hid (Bk (w4.setCell ⟨w2.heap.size,2,none⟩ (.slice (some ⟨b2,0,none⟩) s.ps.length s.ps.length)) (w.heap.size+1) 29 [.bool false,.slice none 0 0,.slice none 0 0]):=aB.o.far aH _;have aw:Hid (RowB (w4.setCell ⟨w2.heap.size,2,none⟩ (.slice (some ⟨b2,0,none⟩) s.ps.length s.ps.length)) b s.ps.length r):=ag.o.far aL _;have aC:Hid (RoI (w4.setCell ⟨w2.heap.size,2,none⟩ (.slice (some ⟨b2,0,none⟩) s.ps.length s.ps.length)) b2 s.ps.length aq):=Hy al.o aF _;have y0:=an.o.c0;have y1:=an.o.c1;have y2:=an.o.c2;have y9:=an.o.lt;clear az af aB ag al;have r0:=a.o.c0;have r1:=a.o.c1;have r2:=a.o.c2;have r9:=a.o.lt;have aS:=a.o.frozen 0;have aT:=a.o.frozen 1;have aU:=a.o.frozen 2;have aJ:Hid (Below w.heap.size w ((((w4.setCell ⟨w2.heap.size,2,none⟩ (.slice (some ⟨b2,0,none⟩) s.ps.length s.ps.length)).setCell ⟨w.heap.size+1,0,none⟩ (.bool false)).setCell ⟨w.heap.size+1,1,none⟩ (.slice (some ⟨b,0,none⟩) s.ps.length s.ps.length)).setCell ⟨w.heap.size+1,2,none⟩ (.slice (some ⟨b2,0,none⟩) s.ps.length s.ps.length))):=(((aI.o.setCell (p:=⟨w.heap.size+1,0,none⟩) (by simp) _).setCell (p:=⟨w.heap.size+1,1,none⟩) (by simp) _).setCell (p:=⟨w.heap.size+1,2,none⟩) (by simp) _);have am:Hid (Bk ((((w4.setCell ⟨w2.heap.size,2,none⟩ (.slice (some ⟨b2,0,none⟩) s.ps.length s.ps.length)).setCell ⟨w.heap.size+1,0,none⟩ (.bool false)).setCell ⟨w.heap.size+1,1,none⟩ (.slice (some ⟨b,0,none⟩) s.ps.length s.ps.length)).setCell ⟨w.heap.size+1,2,none⟩ (.slice (some ⟨b2,0,none⟩) s.ps.length s.ps.length)) (w.heap.size+1) 29 [.bool false,.slice (some ⟨b,0,none⟩) s.ps.length s.ps.length,.slice (some ⟨b2,0,none⟩) s.ps.length s.ps.length]):=(Bk.set (Bk.set (Bk.set a.o 0 _) 1 _) 2 _);have ax:Hid (RowB ((((w4.setCell ⟨w2.heap.size,2,none⟩ (.slice (some ⟨b2,0,none⟩) s.ps.length s.ps.length)).setCell ⟨w.heap.size+1,0,none⟩ (.bool false)).setCell ⟨w.heap.size+1,1,none⟩ (.slice (some ⟨b,0,none⟩) s.ps.length s.ps.length)).setCell ⟨w.heap.size+1,2,none⟩ (.slice (some ⟨b2,0,none⟩) s.ps.length s.ps.length)) b s.ps.length r):=((aw.o.far ai _).far ai _).far ai _;have aD:Hid (RoI ((((w4.setCell ⟨w2.heap.size,2,none⟩ (.slice (some ⟨b2,0,none⟩) s.ps.length s.ps.length)).setCell ⟨w.heap.size+1,0,none⟩ (.bool false)).setCell ⟨w.heap.size+1,1,none⟩ (.slice (some ⟨b,0,none⟩) s.ps.length s.ps.length)).setCell ⟨w.heap.size+1,2,none⟩ (.slice (some ⟨b2,0,none⟩) s.ps.length s.ps.length)) b2 s.ps.length aq):=Hy (Hy (Hy aC.o ah _) ah _) ah _;go_wp2;have s0:=am.o.c0;have s1:=am.o.c1;have s2:=am.o.c2;have s9:=am.o.lt;refine zf (v:=.tuple #[.agg #[.bool false,.slice (some ⟨b,0,none⟩) s.ps.length s.ps.length,.slice (some ⟨b2,0,none⟩) s.ps.length s.ps.length],.int .i64 0]) (by simp[results,Tryz.results17,go_sem,s0,s1,s2]) rfl ?_;exact⟨⟨b,b2,rfl,ax.o,aD.o⟩,aJ.o⟩
theorem Cm(n d:ByteArray)(w:World):Calls Tryz.prog 19 #[.string n,.string d] w fun e w'=>e=.returned (.agg #[.bool false,.string n,.string d])/\Below w.heap.size w w':=by
 have h:Hid (Below w.heap.size w (w.alloc (.cells #[.bool false,.string ⟨#[]⟩,.string ⟨#[]⟩] 34))):=(zI _ w).alloc (zA _) _;have ae:Hid (Bk (w.alloc (.cells #[.bool false,.string ⟨#[]⟩,.string ⟨#[]⟩] 34)) w.heap.size 34 [.bool false,.string ⟨#[]⟩,.string ⟨#[]⟩]):=Bk.new _ _ _;have ad:Hid (Below w.heap.size w ((((w.alloc (.cells #[.bool false,.string ⟨#[]⟩,.string ⟨#[]⟩] 34)).setCell ⟨w.heap.size,0,none⟩ (.bool false)).setCell ⟨w.heap.size,1,none⟩ (.string n)).setCell ⟨w.heap.size,2,none⟩ (.string d))):=((h.o.setCell (p:=⟨w.heap.size,0,none⟩) (zA _) _).setCell (p:=⟨w.heap.size,1,none⟩) (zA _) _).setCell (p:=⟨w.heap.size,2,none⟩) (zA _) _;have aa:Hid (Below w.heap.size w (w.alloc (.cells #[.bool false,.string n,.string d] 34))):=(zI _ w).alloc (zA _) _;have a:Hid (Bk (w.alloc (.cells #[.bool false,.string n,.string d] 34)) w.heap.size 34 [.bool false,.string n,.string d]):=Bk.new _ _ _;go_enter Tryz.func19,Tryz.ntmps19;go_wp2;have s0:=a.o.c0;have s1:=a.o.c1;have s2:=a.o.c2;have s9:=a.o.lt;refine zf (v:=.agg #[.bool false,.string n,.string d]) (by simp[results,Tryz.results19,go_sem,s0,s1,s2]) rfl ⟨rfl,aa.o⟩
theorem Ww{W:World}{b:Nat}(h:Bk W b 55 [.int .i64 0,.int .i64 1,.bool false,.string ⟨#[49]⟩,.string ⟨#[50]⟩,.int .i64 0,.int .i64 2,.bool false,.string ⟨#[49]⟩,.string ⟨#[50]⟩,.int .i64 1,.int .i64 0,.bool false,.string ⟨#[49]⟩,.string ⟨#[50]⟩]):InLk W (some ⟨b,0,none⟩) lM:=fun _=>⟨b,0,rfl,h.lt,fun j hj=>by
 match j,hj with
 |0,_=>exact⟨h.c0,h.c1,h.c2,h.c3,h.c4⟩
 |1,_=>exact⟨h.c5,h.c6,h.c7,h.cell (j:=8) rfl,h.cell (j:=9) rfl⟩
 |2,_=>exact⟨h.cell (j:=10) rfl,h.cell (j:=11) rfl,h.cell (j:=12) rfl,h.cell (j:=13) rfl,h.cell (j:=14) rfl⟩
 |j+3,hj=>exact absurd hj (by simp[lM])⟩
theorem Nx{W:World}{b:Nat}{x y z:Raw}(h:Bk W b 34 [.bool x.1,.string x.2.1,.string x.2.2,.bool y.1,.string y.2.1,.string y.2.2,.bool z.1,.string z.2.1,.string z.2.2]):InRow W (some ⟨b,0,none⟩) [x,y,z]:=fun _=>⟨b,0,rfl,h.lt,fun j hj=>by
 match j,hj with
 |0,_=>exact⟨h.c0,h.c1,h.c2⟩
 |1,_=>exact⟨h.c3,h.c4,h.c5⟩
 |2,_=>exact⟨h.c6,h.c7,h.cell (j:=8) rfl⟩
 |j+3,hj=>exact absurd hj (by simp)⟩
theorem stM{W:World}{pb cb:Nat}(h1:Bk W pb 9 [.string ⟨#[97]⟩,.string ⟨#[98]⟩,.string ⟨#[112]⟩])(h2:Bk W cb 55 [.int .i64 0,.int .i64 1,.bool false,.string ⟨#[49]⟩,.string ⟨#[50]⟩,.int .i64 0,.int .i64 2,.bool false,.string ⟨#[49]⟩,.string ⟨#[50]⟩,.int .i64 1,.int .i64 0,.bool false,.string ⟨#[49]⟩,.string ⟨#[50]⟩]):StIn W sM (some ⟨pb,0,none⟩) (some ⟨cb,0,none⟩) none:=⟨fun _=>⟨pb,0,rfl,h1.lt,fun j hj=>by
 match j,hj with
 |0,_=>exact h1.c0
 |1,_=>exact h1.c1
 |2,_=>exact h1.c2
 |j+3,hj=>exact absurd hj (by simp[sM])⟩,Ww h2,fun h=>absurd h (by decide),by decide,by decide,by decide,by decide +kernel,by decide +kernel,by decide +kernel,by decide +kernel,by decide +kernel⟩
theorem Ny(w:World):Calls Tryz.prog 16 #[] w fun e w'=>(∃pb cb,e=.returned (.agg #[.slice (some ⟨pb,0,none⟩) 3 3,.slice (some ⟨cb,0,none⟩) 3 3,.slice none 0 0])/\Bk w' pb 9 [.string ⟨#[97]⟩,.string ⟨#[98]⟩,.string ⟨#[112]⟩]/\Bk w' cb 55 [.int .i64 0,.int .i64 1,.bool false,.string ⟨#[49]⟩,.string ⟨#[50]⟩,.int .i64 0,.int .i64 2,.bool false,.string ⟨#[49]⟩,.string ⟨#[50]⟩,.int .i64 1,.int .i64 0,.bool false,.string ⟨#[49]⟩,.string ⟨#[50]⟩])/\Below w.heap.size w w':=by
 have ai:Hid (Below w.heap.size w w):=zI _ _;obtain⟨w2,ad⟩:∃X,X=(w.alloc (.cells #[.slice none 0 0,.slice none 0 0,.slice none 0 0] 25)):=⟨_,rfl⟩;have hd:Below w.heap.size w w2:=by rw[ad];exact((zI _ w).alloc (zA _) _)
 have aj:=zh (ai.o.trans (hd.mono ai.o.size));clear hd ai ;obtain⟨br,d⟩:∃x,x=w.heap.size:=⟨_,rfl⟩;have ak:Hid (Bk w2 br 25 [.slice none 0 0,.slice none 0 0,.slice none 0 0]):=by rw[ad,d];have h:=Bk.new w 25 [.slice none 0 0,.slice none 0 0,.slice none 0 0];(try simp only[zK]at h);exact h
 have ko:=zh (Cm ⟨#[49]⟩ ⟨#[50]⟩ w2);go_enter Tryz.func16,Tryz.ntmps16
 go_wp2_with fail
 (try rw[<-ad])
 (try rw[<-d])
 refine ko.o.mono ?_;replace ad:=zh ad;replace d:=zh d;rintro e w3 ⟨rfl,hb⟩;have ae:=zh (aj.o.trans (hb.mono aj.o.size));have ah:=zh (ak.o.below hb);clear hb aj ak;clear ko;have al:=ae.o.size;have aq:=ah.o.lt;have aa:w.heap.size<=br:=by rw[d.o];exact zA _
 have np:w3.heap.size+1≠br:=by omega
 have nc:w3.heap.size+1+1≠br:=by omega
 have ag:Hid (Bk ((w3.alloc (.cells #[.bool false,.string ⟨#[49]⟩,.string ⟨#[50]⟩] 34)).alloc (.cells #[.string ⟨#[97]⟩,.string ⟨#[98]⟩,.string ⟨#[112]⟩] 9)) w3.heap.size 34 [.bool false,.string ⟨#[49]⟩,.string ⟨#[50]⟩]):=(Bk.new w3 34 [.bool false,.string ⟨#[49]⟩,.string ⟨#[50]⟩]).alloc (.cells #[.string ⟨#[97]⟩,.string ⟨#[98]⟩,.string ⟨#[112]⟩] 9);have x0:=ag.o.c0;have x1:=ag.o.c1;have x2:=ag.o.c2;have x9:=ag.o.lt;have a:=zh (((ah.o.alloc (.cells #[.bool false,.string ⟨#[49]⟩,.string ⟨#[50]⟩] 34)).alloc (.cells #[.string ⟨#[97]⟩,.string ⟨#[98]⟩,.string ⟨#[112]⟩] 9)).alloc (.cells #[.int .i64 0,.int .i64 1,.bool false,.string ⟨#[49]⟩,.string ⟨#[50]⟩,.int .i64 0,.int .i64 2,.bool false,.string ⟨#[49]⟩,.string ⟨#[50]⟩,.int .i64 1,.int .i64 0,.bool false,.string ⟨#[49]⟩,.string ⟨#[50]⟩] 55));have r0:=a.o.c0;have r1:=a.o.c1;have r2:=a.o.c2;have r9:=a.o.lt;have ar:=a.o.frozen 0;have au:=a.o.frozen 1;have av:=a.o.frozen 2;have am:Hid (Below w.heap.size w ((((((w3.alloc (.cells #[.bool false,.string ⟨#[49]⟩,.string ⟨#[50]⟩] 34)).alloc (.cells #[.string ⟨#[97]⟩,.string ⟨#[98]⟩,.string ⟨#[112]⟩] 9)).alloc (.cells #[.int .i64 0,.int .i64 1,.bool false,.string ⟨#[49]⟩,.string ⟨#[50]⟩,.int .i64 0,.int .i64 2,.bool false,.string ⟨#[49]⟩,.string ⟨#[50]⟩,.int .i64 1,.int .i64 0,.bool false,.string ⟨#[49]⟩,.string ⟨#[50]⟩] 55)).setCell ⟨br,0,none⟩ (.slice (some ⟨w3.heap.size+1,0,none⟩) 3 3)).setCell ⟨br,1,none⟩ (.slice (some ⟨w3.heap.size+1+1,0,none⟩) 3 3)).setCell ⟨br,2,none⟩ (.slice none 0 0))):=((((((ae.o.alloc ae.o.size (.cells #[.bool false,.string ⟨#[49]⟩,.string ⟨#[50]⟩] 34)).alloc (by simp;omega) (.cells #[.string ⟨#[97]⟩,.string ⟨#[98]⟩,.string ⟨#[112]⟩] 9)).alloc (by simp;omega) (.cells #[.int .i64 0,.int .i64 1,.bool false,.string ⟨#[49]⟩,.string ⟨#[50]⟩,.int .i64 0,.int .i64 2,.bool false,.string ⟨#[49]⟩,.string ⟨#[50]⟩,.int .i64 1,.int .i64 0,.bool false,.string ⟨#[49]⟩,.string ⟨#[50]⟩] 55)).setCell (p:=⟨br,0,none⟩) aa _).setCell (p:=⟨br,1,none⟩) aa _).setCell (p:=⟨br,2,none⟩) aa _);have af:Hid (Bk ((((((w3.alloc (.cells #[.bool false,.string ⟨#[49]⟩,.string ⟨#[50]⟩] 34)).alloc (.cells #[.string ⟨#[97]⟩,.string ⟨#[98]⟩,.string ⟨#[112]⟩] 9)).alloc (.cells #[.int .i64 0,.int .i64 1,.bool false,.string ⟨#[49]⟩,.string ⟨#[50]⟩,.int .i64 0,.int .i64 2,.bool false,.string ⟨#[49]⟩,.string ⟨#[50]⟩,.int .i64 1,.int .i64 0,.bool false,.string ⟨#[49]⟩,.string ⟨#[50]⟩] 55)).setCell ⟨br,0,none⟩ (.slice (some ⟨w3.heap.size+1,0,none⟩) 3 3)).setCell ⟨br,1,none⟩ (.slice (some ⟨w3.heap.size+1+1,0,none⟩) 3 3)).setCell ⟨br,2,none⟩ (.slice none 0 0)) br 25 [.slice (some ⟨w3.heap.size+1,0,none⟩) 3 3,.slice (some ⟨w3.heap.size+1+1,0,none⟩) 3 3,.slice none 0 0]):=(Bk.set (Bk.set (Bk.set (((ah.o.alloc (.cells #[.bool false,.string ⟨#[49]⟩,.string ⟨#[50]⟩] 34)).alloc (.cells #[.string ⟨#[97]⟩,.string ⟨#[98]⟩,.string ⟨#[112]⟩] 9)).alloc (.cells #[.int .i64 0,.int .i64 1,.bool false,.string ⟨#[49]⟩,.string ⟨#[50]⟩,.int .i64 0,.int .i64 2,.bool false,.string ⟨#[49]⟩,.string ⟨#[50]⟩,.int .i64 1,.int .i64 0,.bool false,.string ⟨#[49]⟩,.string ⟨#[50]⟩] 55)) 0 _) 1 _) 2 _);have ao:Hid (Bk ((((((w3.alloc (.cells #[.bool false,.string ⟨#[49]⟩,.string ⟨#[50]⟩] 34)).alloc (.cells #[.string ⟨#[97]⟩,.string ⟨#[98]⟩,.string ⟨#[112]⟩] 9)).alloc (.cells #[.int .i64 0,.int .i64 1,.bool false,.string ⟨#[49]⟩,.string ⟨#[50]⟩,.int .i64 0,.int .i64 2,.bool false,.string ⟨#[49]⟩,.string ⟨#[50]⟩,.int .i64 1,.int .i64 0,.bool false,.string ⟨#[49]⟩,.string ⟨#[50]⟩] 55)).setCell ⟨br,0,none⟩ (.slice (some ⟨w3.heap.size+1,0,none⟩) 3 3)).setCell ⟨br,1,none⟩ (.slice (some ⟨w3.heap.size+1+1,0,none⟩) 3 3)).setCell ⟨br,2,none⟩ (.slice none 0 0)) (w3.heap.size+1) 9 [.string ⟨#[97]⟩,.string ⟨#[98]⟩,.string ⟨#[112]⟩]):=(Bk.far (Bk.far (Bk.far ((by have h:=Bk.new (w3.alloc (.cells #[.bool false,.string ⟨#[49]⟩,.string ⟨#[50]⟩] 34)) 9 [.string ⟨#[97]⟩,.string ⟨#[98]⟩,.string ⟨#[112]⟩];rw[zK]at h;exact h.alloc (.cells #[.int .i64 0,.int .i64 1,.bool false,.string ⟨#[49]⟩,.string ⟨#[50]⟩,.int .i64 0,.int .i64 2,.bool false,.string ⟨#[49]⟩,.string ⟨#[50]⟩,.int .i64 1,.int .i64 0,.bool false,.string ⟨#[49]⟩,.string ⟨#[50]⟩] 55)):Bk (((w3.alloc (.cells #[.bool false,.string ⟨#[49]⟩,.string ⟨#[50]⟩] 34)).alloc (.cells #[.string ⟨#[97]⟩,.string ⟨#[98]⟩,.string ⟨#[112]⟩] 9)).alloc (.cells #[.int .i64 0,.int .i64 1,.bool false,.string ⟨#[49]⟩,.string ⟨#[50]⟩,.int .i64 0,.int .i64 2,.bool false,.string ⟨#[49]⟩,.string ⟨#[50]⟩,.int .i64 1,.int .i64 0,.bool false,.string ⟨#[49]⟩,.string ⟨#[50]⟩] 55)) (w3.heap.size+1) 9 [.string ⟨#[97]⟩,.string ⟨#[98]⟩,.string ⟨#[112]⟩]) np _) np _) np _);have an:Hid (Bk ((((((w3.alloc (.cells #[.bool false,.string ⟨#[49]⟩,.string ⟨#[50]⟩] 34)).alloc (.cells #[.string ⟨#[97]⟩,.string ⟨#[98]⟩,.string ⟨#[112]⟩] 9)).alloc (.cells #[.int .i64 0,.int .i64 1,.bool false,.string ⟨#[49]⟩,.string ⟨#[50]⟩,.int .i64 0,.int .i64 2,.bool false,.string ⟨#[49]⟩,.string ⟨#[50]⟩,.int .i64 1,.int .i64 0,.bool false,.string ⟨#[49]⟩,.string ⟨#[50]⟩] 55)).setCell ⟨br,0,none⟩ (.slice (some ⟨w3.heap.size+1,0,none⟩) 3 3)).setCell ⟨br,1,none⟩ (.slice (some ⟨w3.heap.size+1+1,0,none⟩) 3 3)).setCell ⟨br,2,none⟩ (.slice none 0 0)) (w3.heap.size+1+1) 55 [.int .i64 0,.int .i64 1,.bool false,.string ⟨#[49]⟩,.string ⟨#[50]⟩,.int .i64 0,.int .i64 2,.bool false,.string ⟨#[49]⟩,.string ⟨#[50]⟩,.int .i64 1,.int .i64 0,.bool false,.string ⟨#[49]⟩,.string ⟨#[50]⟩]):=(Bk.far (Bk.far (Bk.far ((by have h:=Bk.new ((w3.alloc (.cells #[.bool false,.string ⟨#[49]⟩,.string ⟨#[50]⟩] 34)).alloc (.cells #[.string ⟨#[97]⟩,.string ⟨#[98]⟩,.string ⟨#[112]⟩] 9)) 55 [.int .i64 0,.int .i64 1,.bool false,.string ⟨#[49]⟩,.string ⟨#[50]⟩,.int .i64 0,.int .i64 2,.bool false,.string ⟨#[49]⟩,.string ⟨#[50]⟩,.int .i64 1,.int .i64 0,.bool false,.string ⟨#[49]⟩,.string ⟨#[50]⟩];simp only[zK]at h;exact h):Bk (((w3.alloc (.cells #[.bool false,.string ⟨#[49]⟩,.string ⟨#[50]⟩] 34)).alloc (.cells #[.string ⟨#[97]⟩,.string ⟨#[98]⟩,.string ⟨#[112]⟩] 9)).alloc (.cells #[.int .i64 0,.int .i64 1,.bool false,.string ⟨#[49]⟩,.string ⟨#[50]⟩,.int .i64 0,.int .i64 2,.bool false,.string ⟨#[49]⟩,.string ⟨#[50]⟩,.int .i64 1,.int .i64 0,.bool false,.string ⟨#[49]⟩,.string ⟨#[50]⟩] 55)) (w3.heap.size+1+1) 55 [.int .i64 0,.int .i64 1,.bool false,.string ⟨#[49]⟩,.string ⟨#[50]⟩,.int .i64 0,.int .i64 2,.bool false,.string ⟨#[49]⟩,.string ⟨#[50]⟩,.int .i64 1,.int .i64 0,.bool false,.string ⟨#[49]⟩,.string ⟨#[50]⟩]) nc _) nc _) nc _);have s0:=af.o.c0;have s1:=af.o.c1;have s2:=af.o.c2;have s9:=af.o.lt;replace s0:=zh s0;replace s1:=zh s1;replace s2:=zh s2;replace s9:=zh s9;clear ah ae al;go_wp2;have t0:=s0.o;have t1:=s1.o;have t2:=s2.o;refine zf (v:=.agg #[.slice (some ⟨w3.heap.size+1,0,none⟩) 3 3,.slice (some ⟨w3.heap.size+1+1,0,none⟩) 3 3,.slice none 0 0]) (by simp[results,Tryz.results16,go_sem,t0,t1,t2]) rfl ⟨⟨_,_,rfl,ao.o,an.o⟩,am.o⟩
def Smp(W:World)(pb cb:Nat):Prop:=Bk W pb 9 [.string ⟨#[97]⟩,.string ⟨#[98]⟩,.string ⟨#[112]⟩]/\Bk W cb 55 [.int .i64 0,.int .i64 1,.bool false,.string ⟨#[49]⟩,.string ⟨#[50]⟩,.int .i64 0,.int .i64 2,.bool false,.string ⟨#[49]⟩,.string ⟨#[50]⟩,.int .i64 1,.int .i64 0,.bool false,.string ⟨#[49]⟩,.string ⟨#[50]⟩]
theorem Smp.below{W W':World}{pb cb:Nat}(h:Smp W pb cb)(hb:Below W.heap.size W W'):Smp W' pb cb:=⟨h.1.below hb,h.2.below hb⟩
theorem Smp.alloc{W:World}{pb cb:Nat}(h:Smp W pb cb)(o:Obj):Smp (W.alloc o) pb cb:=⟨h.1.alloc o,h.2.alloc o⟩
theorem Smp.st{W:World}{pb cb:Nat}(h:Smp W pb cb):StIn W sM (some ⟨pb,0,none⟩) (some ⟨cb,0,none⟩) none:=stM h.1 h.2
theorem Kt{W:World}{b:Nat}(h:Bk W b 3 [.int .i64 2]):InInt W (some ⟨b,0,none⟩) [2]:=fun _=>⟨b,0,rfl,h.lt,fun j hj=>by
 match j,hj with
 |0,_=>exact h.c0
 |j+1,hj=>exact absurd hj (by simp)⟩
theorem WK(w:World)(pb cb fb:Nat)(hE:Env w)(hm:Smp w pb cb)(hf:Bk w fb 3 [.int .i64 2]):∀W,Below w.heap.size w W->Calls Tryz.prog 13 #[.agg #[.slice (some ⟨pb,0,none⟩) 3 3,.slice (some ⟨cb,0,none⟩) 3 3,.slice none 0 0],.slice (some ⟨fb,0,none⟩) 1 1] W fun e w'=>(∃b,e=.returned (.tuple #[.slice (some ⟨b,0,none⟩) 3 3,.int .i64 0])/\RowB w' b 3 (fun p=>rq (ev sM [2] p))/\W.heap.size<=b)/\Below W.heap.size W w':=fun W hW=>
 (ST sM _ _ none _ 3 3 0 1 [2] W (hE.below hW) (hm.below hW).st (by decide) (by decide) (Kt (hf.below hW)) (by decide)).mono fun e w' h=>by
   obtain⟨h3,h4⟩:=h;rw[zG ⟨DC,Hx⟩]at h3;obtain⟨b,e1,e2,e3⟩:=h3;exact⟨⟨b,e1,e3,e2⟩,h4⟩
theorem rkM(w:World)(pb cb fb:Nat)(hE:Env w)(hm:Smp w pb cb)(hf:Bk w fb 3 [.int .i64 2]):∀W,Below w.heap.size w W->Calls Tryz.prog 23 #[.agg #[.slice (some ⟨pb,0,none⟩) 3 3,.slice (some ⟨cb,0,none⟩) 3 3,.slice none 0 0],.slice (some ⟨fb,0,none⟩) 1 1] W fun e w'=>(∃b,e=.returned (.tuple #[.slice (some ⟨b,0,none⟩) 3 3,.int .i64 0])/\RoI w' b 3 (rk (Ad sM) (toN [2]))/\W.heap.size<=b)/\Below W.heap.size W w':=fun W hW=>
 (Fo sM _ _ none _ 3 3 0 1 [2] W (hE.below hW) (hm.below hW).st (by decide) (Kt (hf.below hW)) (by decide)).mono fun e w' h=>by
   obtain⟨h3,h4⟩:=h;rw[zG ⟨DC,Hx⟩]at h3;obtain⟨b,e1,e2,e3⟩:=h3;exact⟨⟨b,e1,e3,e2⟩,h4⟩
theorem Ta(w:World)(pb cb fb:Nat)(hE:Env w)(hm:Smp w pb cb)(hf:Bk w fb 3 [.int .i64 2]):∀W,Below w.heap.size w W->Calls Tryz.prog 18 #[.agg #[.slice (some ⟨pb,0,none⟩) 3 3,.slice (some ⟨cb,0,none⟩) 3 3,.slice none 0 0],.slice (some ⟨fb,0,none⟩) 1 1] W fun e w'=>(∃b,e=.returned (.tuple #[.agg #[.bool true,.slice (some ⟨b,0,none⟩) 3 3,.slice none 0 0],.int .i64 0])/\RowB w' b 3 (fun p=>rq (ev sM [2] p))/\W.heap.size<=b)/\Below W.heap.size W w':=fun W hW=>
 SY sM _ _ none _ 3 3 0 1 [2] W _ (fun W2 h2=>WK w pb cb fb hE hm hf W2 (hW.trans (h2.mono hW.size)))
theorem Hv{W:World}{b:Nat}(h:RowB W b 3 (fun p=>rq (ev sM [2] p))):InRow W (some ⟨b,0,none⟩) (V3 q2 q1 1):=by
 have h1:=I2 h
 have h2:AO 3 (ev sM [2])=V3 q2 q1 1:=by
  show [rq (ev sM [2] 0),rq (ev sM [2] 1),rq (ev sM [2] 2)]=_
  rw[SW.1,SW.2.1,SW.2.2];rfl
 rw[<-h2];exact h1
theorem VI{W:World}{b:Nat}(h:RoI W b 3 (rk (Ad sM) (toN [2]))):InInt W (some ⟨b,0,none⟩) [1,2,0]:=by
 have h1:=h.inInt
 have h2:(List.range 3).map (rk (Ad sM) (toN [2]))=[1,2,0]:=by
  show [rk (Ad sM) (toN [2]) 0,rk (Ad sM) (toN [2]) 1,rk (Ad sM) (toN [2]) 2]=_
  rw[SX 0 (by decide),SX 1 (by decide),SX 2 (by decide)];rfl
 rw[<-h2];exact h1
theorem Tb(w:World)(pb cb fb:Nat)(hE:Env w)(hm:Smp w pb cb)(hf:Bk w fb 3 [.int .i64 2]):Calls Tryz.prog 18 #[.agg #[.slice (some ⟨pb,0,none⟩) 3 3,.slice (some ⟨cb,0,none⟩) 3 3,.slice none 0 0],.slice (some ⟨fb,0,none⟩) 1 1] w fun e w'=>(∃b,e=.returned (.tuple #[.agg #[.bool true,.slice (some ⟨b,0,none⟩) 3 3,.slice none 0 0],.int .i64 0])/\InRow w' (some ⟨b,0,none⟩) (V3 q2 q1 1))/\Below w.heap.size w w' :=
 (Ta w pb cb fb hE hm hf w (zI _ _)).mono fun e w' h=>by
   obtain⟨⟨b,e1,e2,_⟩,h4⟩:=h;exact⟨⟨b,e1,Hv e2⟩,h4⟩
theorem Tc(w:World)(pb cb fb:Nat)(hE:Env w)(hm:Smp w pb cb)(hf:Bk w fb 3 [.int .i64 2]):Calls Tryz.prog 17 #[.agg #[.slice (some ⟨pb,0,none⟩) 3 3,.slice (some ⟨cb,0,none⟩) 3 3,.slice none 0 0],.slice (some ⟨fb,0,none⟩) 1 1] w fun e w'=>(∃b b2,e=.returned (.tuple #[.agg #[.bool false,.slice (some ⟨b,0,none⟩) 3 3,.slice (some ⟨b2,0,none⟩) 3 3],.int .i64 0])/\InRow w' (some ⟨b,0,none⟩) (V3 q2 q1 1)/\InInt w' (some ⟨b2,0,none⟩) [1,2,0])/\Below w.heap.size w w' :=
 (SZ sM _ _ none _ 3 3 0 1 [2] w _ _ (Ta w pb cb fb hE hm hf) (rkM w pb cb fb hE hm hf)).mono fun e w' h=>by
   obtain⟨⟨b,b2,e1,e2,e3⟩,h4⟩:=h;exact⟨⟨b,b2,e1,Hv e2,VI e3⟩,h4⟩
theorem Td(w:World)(pb cb sb:Nat)(hE:Env w)(hm:Smp w pb cb)(hS:Bk w sb 25 [.slice (some ⟨pb,0,none⟩) 3 3,.slice (some ⟨cb,0,none⟩) 3 3,.slice none 0 0])(ab:Bool)(Aw Ar:Option Addr)(cw cr:Nat)(V:List Raw)(R:List Int)
 (hV:InRow w Aw V)(ag:V.length<=140737488355328)(aa:∀k (h:k<V.length),V[k].2.1.size<=140737488355328/\V[k].2.2.size<=140737488355328)(hR:InInt w Ar R)(af:R.length<=140737488355328):
 Calls Tryz.prog 21 #[.agg #[.bool ab,.slice Aw V.length cw,.slice Ar R.length cr],.pointer (some ⟨sb,0,none⟩)] w (ChkPost sM [2] ab V R w):=by
 have ad:Below w.heap.size w (w.alloc (.cells #[.bool ab,.slice Aw V.length cw,.slice Ar R.length cr] 29)):=(zI _ w).alloc (zA _) _;have a:Below w.heap.size w ((w.alloc (.cells #[.bool ab,.slice Aw V.length cw,.slice Ar R.length cr] 29)).alloc (.cells #[.int .i64 2] 3)):=ad.alloc ad.size _;have hf:Bk ((w.alloc (.cells #[.bool ab,.slice Aw V.length cw,.slice Ar R.length cr] 29)).alloc (.cells #[.int .i64 2] 3)) (w.heap.size+1) 3 [.int .i64 2]:=by have h:=Bk.new (w.alloc (.cells #[.bool ab,.slice Aw V.length cw,.slice Ar R.length cr] 29)) 3 [.int .i64 2];rw[zK]at h;exact h
 have ae:Bk (w.alloc (.cells #[.bool ab,.slice Aw V.length cw,.slice Ar R.length cr] 29)) w.heap.size 29 [.bool ab,.slice Aw V.length cw,.slice Ar R.length cr]:=Bk.new _ _ _;have hx:=ae.alloc (.cells #[.int .i64 2] 3);have d:=hS.alloc (.cells #[.bool ab,.slice Aw V.length cw,.slice Ar R.length cr] 29);have ah:=d.alloc (.cells #[.int .i64 2] 3);have kc:=zh (J1 sM (some ⟨pb,0,none⟩) (some ⟨cb,0,none⟩) none (some ⟨w.heap.size+1,0,none⟩) Aw Ar 3 3 0 1 cw cr [2] ab V R ((w.alloc (.cells #[.bool ab,.slice Aw V.length cw,.slice Ar R.length cr] 29)).alloc (.cells #[.int .i64 2] 3)) (hE.below a) (hm.below a).st (by decide) (Kt hf) (by decide) (hV.below a (zA _)) ag aa (hR.below a) af);have a0:=d.c0;have a1:=d.c1;have a2:=d.c2;have a9:=d.lt;have x0:=hx.c0;have x1:=hx.c1;have x2:=hx.c2;have x9:=hx.lt;replace a:=zh a;replace hf:=zh hf;replace hE:=zh hE;replace hm:=zh hm;replace hV:=zh hV;replace hR:=zh hR;replace aa:=zh aa;clear ad hx ae d ah hS;go_enter Tryz.func21,Tryz.ntmps21
 go_wp2_with fail
 refine kc.o.mono ?_;rintro e w3 ⟨⟨r,rfl,hr⟩,hb⟩;replace hr:=zh hr;replace hb:=zh hb;clear kc a0 a1 a2 a9 x0 x1 x2 x9
 go_wp2_with fail
 refine zf (v:=.bool r) (by simp[results,Tryz.results21,go_sem]) rfl ⟨⟨r,rfl,hr.o⟩,a.o.trans (hb.o.mono a.o.size)⟩
theorem U6(w:World):Calls Tryz.prog 16 #[] w fun e w'=>(∃pb cb,e=.returned (.agg #[.slice (some ⟨pb,0,none⟩) 3 3,.slice (some ⟨cb,0,none⟩) 3 3,.slice none 0 0])/\Smp w' pb cb)/\Below w.heap.size w w':=Ny w
theorem V3x:V3 q2 q1 1=[(false,⟨#[50]⟩,⟨#[51]⟩),(false,⟨#[49]⟩,⟨#[51]⟩),(false,⟨#[49]⟩,⟨#[49]⟩)]:=by decide +kernel
theorem V3l:V3 (1/2) (1/4) 1=[(false,⟨#[49]⟩,⟨#[50]⟩),(false,⟨#[49]⟩,⟨#[52]⟩),(false,⟨#[49]⟩,⟨#[49]⟩)]:=by decide +kernel
theorem V3o:V3 1 1 1=[(false,⟨#[49]⟩,⟨#[49]⟩),(false,⟨#[49]⟩,⟨#[49]⟩),(false,⟨#[49]⟩,⟨#[49]⟩)]:=by decide +kernel
theorem Wx{W:World}{b:Nat}(h:Bk W b 34 [.bool false,.string ⟨#[50]⟩,.string ⟨#[51]⟩,.bool false,.string ⟨#[49]⟩,.string ⟨#[51]⟩,.bool false,.string ⟨#[49]⟩,.string ⟨#[49]⟩]):InRow W (some ⟨b,0,none⟩) (V3 q2 q1 1):=by rw[V3x];exact Nx (x:=(false,⟨#[50]⟩,⟨#[51]⟩)) (y:=(false,⟨#[49]⟩,⟨#[51]⟩)) (z:=(false,⟨#[49]⟩,⟨#[49]⟩)) h
theorem VJ{W:World}{b:Nat}(h:Bk W b 34 [.bool false,.string ⟨#[49]⟩,.string ⟨#[50]⟩,.bool false,.string ⟨#[49]⟩,.string ⟨#[52]⟩,.bool false,.string ⟨#[49]⟩,.string ⟨#[49]⟩]):InRow W (some ⟨b,0,none⟩) (V3 (1/2) (1/4) 1):=by rw[V3l];exact Nx (x:=(false,⟨#[49]⟩,⟨#[50]⟩)) (y:=(false,⟨#[49]⟩,⟨#[52]⟩)) (z:=(false,⟨#[49]⟩,⟨#[49]⟩)) h
theorem WL{W:World}{b:Nat}(h:Bk W b 34 [.bool false,.string ⟨#[49]⟩,.string ⟨#[49]⟩,.bool false,.string ⟨#[49]⟩,.string ⟨#[49]⟩,.bool false,.string ⟨#[49]⟩,.string ⟨#[49]⟩]):InRow W (some ⟨b,0,none⟩) (V3 1 1 1):=by rw[V3o];exact Nx (x:=(false,⟨#[49]⟩,⟨#[49]⟩)) (y:=(false,⟨#[49]⟩,⟨#[49]⟩)) (z:=(false,⟨#[49]⟩,⟨#[49]⟩)) h
theorem Ku{W:World}{b:Nat}{x y z:Int}(h:Bk W b 3 [.int .i64 x,.int .i64 y,.int .i64 z]):InInt W (some ⟨b,0,none⟩) [x,y,z]:=fun _=>⟨b,0,rfl,h.lt,fun j hj=>by
 match j,hj with
 |0,_=>exact h.c0
 |1,_=>exact h.c1
 |2,_=>exact h.c2
 |j+3,hj=>exact absurd hj (by simp)⟩
theorem I9(W:World):InInt W none []:=fun h=>absurd h (by decide)
theorem UW(ab:Bool)(Aw Ar Aw' Ar':Option Addr)(nr:Nat)(R:List Int)(a b c:Rat)(w:World)(hn:R.length=nr)(hV:InRow w Aw (V3 a b c))(aa:InRow w Aw' (V3 a b c))(hR:InInt w Ar R)(d:InInt w Ar' R)(l2:nr<=3):
 Calls Tryz.prog 20 #[.agg #[.bool ab,.slice Aw 3 3,.slice Ar nr nr],.agg #[.bool ab,.slice Aw' 3 3,.slice Ar' nr nr]] w fun e w'=>e=.returned (.bool true)/\Below w.heap.size w w':=by
 subst hn;refine(Nw ab ab Aw Ar Aw' Ar' 3 R.length 3 R.length (V3 a b c) (V3 a b c) R R w hV aa hR d (by show (3:Nat)<_;decide) (zS l2 (by decide))).mono ?_;rintro e w' ⟨rfl,h⟩;exact⟨by simp,h⟩
theorem PY(w:World)(pb cb sb:Nat)(hE:Env w)(hm:Smp w pb cb)(hS:Bk w sb 25 [.slice (some ⟨pb,0,none⟩) 3 3,.slice (some ⟨cb,0,none⟩) 3 3,.slice none 0 0])(ab:Bool)(Aw Ar:Option Addr)(nr:Nat)(a b c:Rat)(R:List Int)(r0:Bool)(hn:R.length=nr)(l2:nr<=3)(hV:InRow w Aw (V3 a b c))(hR:InInt w Ar R)(hz:((V3 a b c).all fun x=>decide (x.2.1.size<=10)&&decide (x.2.2.size<=10))=true)(hr:r0=true<->Chk sM [2] ab (V3 a b c) R):
 Calls Tryz.prog 21 #[.agg #[.bool ab,.slice Aw 3 3,.slice Ar nr nr],.pointer (some ⟨sb,0,none⟩)] w fun e w'=>e=.returned (.bool r0)/\Below w.heap.size w w':=by
 subst hn;refine(Td w pb cb sb hE hm hS ab Aw Ar 3 R.length (V3 a b c) R hV (by show (3:Nat)<=_;decide) (fun k hk=>by have h:=List.all_eq_true.1 hz _ (zN hk);simp only[yI,yV]at h;omega) hR (zS l2 (by decide))).mono ?_;rintro e w' ⟨⟨r,rfl,h⟩,hb⟩;refine⟨?_,hb⟩;have:r=r0:=by cases r<;>cases r0<;>simp_all
 rw[this]
theorem EB(w:World)(hE:Env w):Calls Tryz.prog 5 #[] w fun e w'=>e=.returned (.bool true)/\Below w.heap.size w w':=by
 replace hE:=zh hE;have fp:Hid (Below w.heap.size w w):=zI _ _;go_enter Tryz.func5,Tryz.ntmps5
 go_wp2_with fail
 have kk:=U6 w;refine kk.mono ?_;clear kk;rintro e w2 ⟨⟨pb,cb,rfl,hM⟩,hb⟩;have fq:=zh (fp.o.trans (hb.mono fp.o.size));clear hb fp ;have fR:=zh hM;clear hM;have z1:Bk (w2.alloc (.cells #[.slice (some ⟨pb,0,none⟩) 3 3,.slice (some ⟨cb,0,none⟩) 3 3,.slice none 0 0] 25)) (w2.heap.size) 25 [.slice (some ⟨pb,0,none⟩) 3 3,.slice (some ⟨cb,0,none⟩) 3 3,.slice none 0 0]:=(by have h:=Bk.new w2 25 [.slice (some ⟨pb,0,none⟩) 3 3,.slice (some ⟨cb,0,none⟩) 3 3,.slice none 0 0];(try simp only[zK]at h);exact h:Bk (w2.alloc (.cells #[.slice (some ⟨pb,0,none⟩) 3 3,.slice (some ⟨cb,0,none⟩) 3 3,.slice none 0 0] 25)) (w2.heap.size) 25 [.slice (some ⟨pb,0,none⟩) 3 3,.slice (some ⟨cb,0,none⟩) 3 3,.slice none 0 0]);have z1_0:=z1.c0;have z1_1:=z1.c1;have z1_2:=z1.c2;have z1_9:=z1.lt;clear z1;obtain⟨w3,ao⟩:∃X,X=((w2.alloc (.cells #[.slice (some ⟨pb,0,none⟩) 3 3,.slice (some ⟨cb,0,none⟩) 3 3,.slice none 0 0] 25)).alloc (.cells #[.int .i64 2] 3)):=⟨_,rfl⟩;have hd:Below w2.heap.size w2 w3:=by rw[ao];exact(((zI _ w2).alloc (zA _) _).alloc (by simp) _)
 have bD:=zh (fq.o.trans (hd.mono fq.o.size));have fA:=zh (fR.o.below hd);clear hd fq fR;obtain⟨bs,bL⟩:∃x,x=(w2.heap.size):=⟨_,rfl⟩;have gi:Hid (Bk w3 bs 25 [.slice (some ⟨pb,0,none⟩) 3 3,.slice (some ⟨cb,0,none⟩) 3 3,.slice none 0 0]):=by rw[ao,bL];exact(Bk.alloc (by have h:=Bk.new w2 25 [.slice (some ⟨pb,0,none⟩) 3 3,.slice (some ⟨cb,0,none⟩) 3 3,.slice none 0 0];(try simp only[zK]at h);exact h:Bk (w2.alloc (.cells #[.slice (some ⟨pb,0,none⟩) 3 3,.slice (some ⟨cb,0,none⟩) 3 3,.slice none 0 0] 25)) (w2.heap.size) 25 [.slice (some ⟨pb,0,none⟩) 3 3,.slice (some ⟨cb,0,none⟩) 3 3,.slice none 0 0]) (.cells #[.int .i64 2] 3))
 obtain⟨bf,bJ⟩:∃x,x=(w2.heap.size+1):=⟨_,rfl⟩;have fH:Hid (Bk w3 bf 3 [.int .i64 2]):=by rw[ao,bJ];exact(by have h:=Bk.new (w2.alloc (.cells #[.slice (some ⟨pb,0,none⟩) 3 3,.slice (some ⟨cb,0,none⟩) 3 3,.slice none 0 0] 25)) 3 [.int .i64 2];(try simp only[zK]at h);exact h:Bk ((w2.alloc (.cells #[.slice (some ⟨pb,0,none⟩) 3 3,.slice (some ⟨cb,0,none⟩) 3 3,.slice none 0 0] 25)).alloc (.cells #[.int .i64 2] 3)) (w2.heap.size+1) 3 [.int .i64 2])
 go_wp2_with fail
 (try rw[<-ao])
 (try rw[<-bJ])
 (try rw[<-bL])
 replace ao:=zh ao;replace bL:=zh bL;replace bJ:=zh bJ;have kk:=Tc w3 pb cb bf (hE.o.below bD.o) fA.o fH.o;refine kk.mono ?_;clear kk;rintro e w4 ⟨⟨bv,br,rfl,hV,hR⟩,hb⟩;have fv:=zh (bD.o.trans (hb.mono bD.o.size));have fS:=zh (fA.o.below hb);have fK:=zh (gi.o.below hb);have gy:=zh (fH.o.below hb);clear hb bD fA gi fH;clear z1_0 z1_1 z1_2 z1_9;have f3:=zh hV;clear hV;have fX:=zh hR;clear hR;clear gy;have z2:Bk (w4.alloc (.cells #[.bool false,.slice (some ⟨bv,0,none⟩) 3 3,.slice (some ⟨br,0,none⟩) 3 3] 29)) bs 25 [.slice (some ⟨pb,0,none⟩) 3 3,.slice (some ⟨cb,0,none⟩) 3 3,.slice none 0 0]:=(Bk.alloc fK.o (.cells #[.bool false,.slice (some ⟨bv,0,none⟩) 3 3,.slice (some ⟨br,0,none⟩) 3 3] 29));have z2_0:=z2.c0;have z2_1:=z2.c1;have z2_2:=z2.c2;have z2_9:=z2.lt;clear z2;obtain⟨w5,aq⟩:∃X,X=((w4.alloc (.cells #[.bool false,.slice (some ⟨bv,0,none⟩) 3 3,.slice (some ⟨br,0,none⟩) 3 3] 29)).alloc (.cells #[.int .i64 2] 3)):=⟨_,rfl⟩;have hd:Below w4.heap.size w4 w5:=by rw[aq];exact(((zI _ w4).alloc (zA _) _).alloc (by simp) _)
 have bE:=zh (fv.o.trans (hd.mono fv.o.size));have fB:=zh (fS.o.below hd);have gj:=zh (fK.o.below hd);have f4:=zh (f3.o.below hd (zA _));have fY:=zh (fX.o.below hd);clear hd fv fS fK f3 fX;obtain⟨bc,bG⟩:∃x,x=(w4.heap.size):=⟨_,rfl⟩;have f9:Hid (Bk w5 bc 29 [.bool false,.slice (some ⟨bv,0,none⟩) 3 3,.slice (some ⟨br,0,none⟩) 3 3]):=by rw[aq,bG];exact(Bk.alloc (by have h:=Bk.new w4 29 [.bool false,.slice (some ⟨bv,0,none⟩) 3 3,.slice (some ⟨br,0,none⟩) 3 3];(try simp only[zK]at h);exact h:Bk (w4.alloc (.cells #[.bool false,.slice (some ⟨bv,0,none⟩) 3 3,.slice (some ⟨br,0,none⟩) 3 3] 29)) (w4.heap.size) 29 [.bool false,.slice (some ⟨bv,0,none⟩) 3 3,.slice (some ⟨br,0,none⟩) 3 3]) (.cells #[.int .i64 2] 3))
 obtain⟨bg,bK⟩:∃x,x=(w4.heap.size+1):=⟨_,rfl⟩;have fI:Hid (Bk w5 bg 3 [.int .i64 2]):=by rw[aq,bK];exact(by have h:=Bk.new (w4.alloc (.cells #[.bool false,.slice (some ⟨bv,0,none⟩) 3 3,.slice (some ⟨br,0,none⟩) 3 3] 29)) 3 [.int .i64 2];(try simp only[zK]at h);exact h:Bk ((w4.alloc (.cells #[.bool false,.slice (some ⟨bv,0,none⟩) 3 3,.slice (some ⟨br,0,none⟩) 3 3] 29)).alloc (.cells #[.int .i64 2] 3)) (w4.heap.size+1) 3 [.int .i64 2])
 go_wp2_with fail
 (try rw[<-aq])
 (try rw[<-bK])
 (try rw[<-bG])
 replace aq:=zh aq;replace bG:=zh bG;replace bK:=zh bK;have kk:=Tb w5 pb cb bg (hE.o.below bE.o) fB.o fI.o;refine kk.mono ?_;clear kk;rintro e w6 ⟨⟨bw,rfl,hD⟩,hb⟩;have fw:=zh (bE.o.trans (hb.mono bE.o.size));have fT:=zh (fB.o.below hb);have gk:=zh (gj.o.below hb);have f5:=zh (f4.o.below hb (zA _));have fZ:=zh (fY.o.below hb);have ga:=zh (f9.o.below hb);have gz:=zh (fI.o.below hb);clear hb bE fB gj f4 fY f9 fI;clear z2_0 z2_1 z2_2 z2_9;have fN:=zh hD;clear hD;clear gz;obtain⟨w7,bj⟩:∃X,X=(w6.alloc (.cells #[.bool true,.slice (some ⟨bw,0,none⟩) 3 3,.slice none 0 0] 29)):=⟨_,rfl⟩;have hd:Below w6.heap.size w6 w7:=by rw[bj];exact((zI _ w6).alloc (zA _) _)
 have fx:=zh (fw.o.trans (hd.mono fw.o.size));have fU:=zh (fT.o.below hd);have gl:=zh (gk.o.below hd);have f6:=zh (f5.o.below hd (zA _));have f0:=zh (fZ.o.below hd);have gb:=zh (ga.o.below hd);have fO:=zh (fN.o.below hd (zA _));clear hd fw fT gk f5 fZ ga fN;obtain⟨bd,bH⟩:∃x,x=(w6.heap.size):=⟨_,rfl⟩;have gf:Hid (Bk w7 bd 29 [.bool true,.slice (some ⟨bw,0,none⟩) 3 3,.slice none 0 0]):=by rw[bj,bH];exact(by have h:=Bk.new w6 29 [.bool true,.slice (some ⟨bw,0,none⟩) 3 3,.slice none 0 0];(try simp only[zK]at h);exact h:Bk (w6.alloc (.cells #[.bool true,.slice (some ⟨bw,0,none⟩) 3 3,.slice none 0 0] 29)) (w6.heap.size) 29 [.bool true,.slice (some ⟨bw,0,none⟩) 3 3,.slice none 0 0])
 go_wp2_with fail
 (try rw[<-bj])
 (try rw[<-bH])
 replace bj:=zh bj;replace bH:=zh bH;have kk:=Cm ⟨#[50]⟩ ⟨#[51]⟩ w7;refine kk.mono ?_;clear kk;rintro e w8 ⟨rfl,hb⟩;have fy:=zh (fx.o.trans (hb.mono fx.o.size));have fV:=zh (fU.o.below hb);have gm:=zh (gl.o.below hb);have f7:=zh (f6.o.below hb (zA _));have f1:=zh (f0.o.below hb);have gc:=zh (gb.o.below hb);have fP:=zh (fO.o.below hb (zA _));have gg:=zh (gf.o.below hb);clear hb fx fU gl f6 f0 gb fO gf
 go_wp2_with fail
 have kk:=Cm ⟨#[49]⟩ ⟨#[51]⟩ w8;refine kk.mono ?_;clear kk;rintro e w9 ⟨rfl,hb⟩;have fz:=zh (fy.o.trans (hb.mono fy.o.size));have fW:=zh (fV.o.below hb);have gn:=zh (gm.o.below hb);have f8:=zh (f7.o.below hb (zA _));have f2:=zh (f1.o.below hb);have gd:=zh (gc.o.below hb);have fQ:=zh (fP.o.below hb (zA _));have gh:=zh (gg.o.below hb);clear hb fy fV gm f7 f1 gc fP gg
 go_wp2_with fail
 have kk:=Cm ⟨#[49]⟩ ⟨#[49]⟩ w9;refine kk.mono ?_;clear kk;rintro e af ⟨rfl,hb⟩;have au:=zh (fz.o.trans (hb.mono fz.o.size));have b3:=zh (fW.o.below hb);have ex:=zh (gn.o.below hb);have cw:=zh (f8.o.below hb (zA _));have cf:=zh (f2.o.below hb);have cT:=zh (gd.o.below hb);have bN:=zh (fQ.o.below hb (zA _));have dh:=zh (gh.o.below hb);clear hb fz fW gn f8 f2 gd fQ gh;obtain⟨fL,ae⟩:∃X,X=(af.alloc (.cells #[.bool false,.string ⟨#[50]⟩,.string ⟨#[51]⟩,.bool false,.string ⟨#[49]⟩,.string ⟨#[51]⟩,.bool false,.string ⟨#[49]⟩,.string ⟨#[49]⟩] 34)):=⟨_,rfl⟩;have hd:Below af.heap.size af fL:=by rw[ae];exact((zI _ af).alloc (zA _) _)
 have av:=zh (au.o.trans (hd.mono au.o.size));have b4:=zh (b3.o.below hd);have ey:=zh (ex.o.below hd);have cx:=zh (cw.o.below hd (zA _));have cg:=zh (cf.o.below hd);have cU:=zh (cT.o.below hd);have bO:=zh (bN.o.below hd (zA _));have di:=zh (dh.o.below hd);clear hd au b3 ex cw cf cT bN dh;obtain⟨bx,bM⟩:∃x,x=(af.heap.size):=⟨_,rfl⟩;have e4:Hid (Bk fL bx 34 [.bool false,.string ⟨#[50]⟩,.string ⟨#[51]⟩,.bool false,.string ⟨#[49]⟩,.string ⟨#[51]⟩,.bool false,.string ⟨#[49]⟩,.string ⟨#[49]⟩]):=by rw[ae,bM];exact(by have h:=Bk.new af 34 [.bool false,.string ⟨#[50]⟩,.string ⟨#[51]⟩,.bool false,.string ⟨#[49]⟩,.string ⟨#[51]⟩,.bool false,.string ⟨#[49]⟩,.string ⟨#[49]⟩];(try simp only[zK]at h);exact h:Bk (af.alloc (.cells #[.bool false,.string ⟨#[50]⟩,.string ⟨#[51]⟩,.bool false,.string ⟨#[49]⟩,.string ⟨#[51]⟩,.bool false,.string ⟨#[49]⟩,.string ⟨#[49]⟩] 34)) (af.heap.size) 34 [.bool false,.string ⟨#[50]⟩,.string ⟨#[51]⟩,.bool false,.string ⟨#[49]⟩,.string ⟨#[51]⟩,.bool false,.string ⟨#[49]⟩,.string ⟨#[49]⟩])
 go_wp2_with fail
 (try rw[<-ae])
 (try rw[<-bM])
 replace ae:=zh ae;replace bM:=zh bM;have kk:=Cm ⟨#[49]⟩ ⟨#[50]⟩ fL;refine kk.mono ?_;clear kk;rintro e gA ⟨rfl,hb⟩;have aw:=zh (av.o.trans (hb.mono av.o.size));have b5:=zh (b4.o.below hb);have ez:=zh (ey.o.below hb);have cy:=zh (cx.o.below hb (zA _));have ch:=zh (cg.o.below hb);have cV:=zh (cU.o.below hb);have bP:=zh (bO.o.below hb (zA _));have dj:=zh (di.o.below hb);have e5:=zh (e4.o.below hb);clear hb av b4 ey cx cg cU bO di e4
 go_wp2_with fail
 have kk:=Cm ⟨#[49]⟩ ⟨#[52]⟩ gA;refine kk.mono ?_;clear kk;rintro e gB ⟨rfl,hb⟩;have ax:=zh (aw.o.trans (hb.mono aw.o.size));have b6:=zh (b5.o.below hb);have eA:=zh (ez.o.below hb);have cz:=zh (cy.o.below hb (zA _));have ci:=zh (ch.o.below hb);have cW:=zh (cV.o.below hb);have bQ:=zh (bP.o.below hb (zA _));have dk:=zh (dj.o.below hb);have e6:=zh (e5.o.below hb);clear hb aw b5 ez cy ch cV bP dj e5
 go_wp2_with fail
 have kk:=Cm ⟨#[49]⟩ ⟨#[49]⟩ gB;refine kk.mono ?_;clear kk;rintro e a ⟨rfl,hb⟩;have ay:=zh (ax.o.trans (hb.mono ax.o.size));have b7:=zh (b6.o.below hb);have eB:=zh (eA.o.below hb);have cA:=zh (cz.o.below hb (zA _));have cj:=zh (ci.o.below hb);have cX:=zh (cW.o.below hb);have bR:=zh (bQ.o.below hb (zA _));have dl:=zh (dk.o.below hb);have e7:=zh (e6.o.below hb);clear hb ax b6 eA cz ci cW bQ dk e6;have z3:Bk (((a.alloc (.cells #[.bool false,.string ⟨#[49]⟩,.string ⟨#[50]⟩,.bool false,.string ⟨#[49]⟩,.string ⟨#[52]⟩,.bool false,.string ⟨#[49]⟩,.string ⟨#[49]⟩] 34)).alloc (.cells #[.int .i64 1,.int .i64 2,.int .i64 0] 3)).alloc (.cells #[.bool false,.slice (some ⟨a.heap.size,0,none⟩) 3 3,.slice (some ⟨a.heap.size+1,0,none⟩) 3 3] 29)) (a.heap.size+1+1) 29 [.bool false,.slice (some ⟨a.heap.size,0,none⟩) 3 3,.slice (some ⟨a.heap.size+1,0,none⟩) 3 3]:=(by have h:=Bk.new ((a.alloc (.cells #[.bool false,.string ⟨#[49]⟩,.string ⟨#[50]⟩,.bool false,.string ⟨#[49]⟩,.string ⟨#[52]⟩,.bool false,.string ⟨#[49]⟩,.string ⟨#[49]⟩] 34)).alloc (.cells #[.int .i64 1,.int .i64 2,.int .i64 0] 3)) 29 [.bool false,.slice (some ⟨a.heap.size,0,none⟩) 3 3,.slice (some ⟨a.heap.size+1,0,none⟩) 3 3];(try simp only[zK]at h);exact h:Bk (((a.alloc (.cells #[.bool false,.string ⟨#[49]⟩,.string ⟨#[50]⟩,.bool false,.string ⟨#[49]⟩,.string ⟨#[52]⟩,.bool false,.string ⟨#[49]⟩,.string ⟨#[49]⟩] 34)).alloc (.cells #[.int .i64 1,.int .i64 2,.int .i64 0] 3)).alloc (.cells #[.bool false,.slice (some ⟨a.heap.size,0,none⟩) 3 3,.slice (some ⟨a.heap.size+1,0,none⟩) 3 3] 29)) (a.heap.size+1+1) 29 [.bool false,.slice (some ⟨a.heap.size,0,none⟩) 3 3,.slice (some ⟨a.heap.size+1,0,none⟩) 3 3]);have z3_0:=z3.c0;have z3_1:=z3.c1;have z3_2:=z3.c2;have z3_9:=z3.lt;clear z3;have z4:Bk (((((a.alloc (.cells #[.bool false,.string ⟨#[49]⟩,.string ⟨#[50]⟩,.bool false,.string ⟨#[49]⟩,.string ⟨#[52]⟩,.bool false,.string ⟨#[49]⟩,.string ⟨#[49]⟩] 34)).alloc (.cells #[.int .i64 1,.int .i64 2,.int .i64 0] 3)).alloc (.cells #[.bool false,.slice (some ⟨a.heap.size,0,none⟩) 3 3,.slice (some ⟨a.heap.size+1,0,none⟩) 3 3] 29)).alloc (.cells #[.bool false,.slice (some ⟨a.heap.size,0,none⟩) 3 3,.slice (some ⟨a.heap.size+1,0,none⟩) 3 3] 29)).alloc (.cells #[.int .i64 2,.int .i64 1,.int .i64 0] 3)) (a.heap.size+1+1+1) 29 [.bool false,.slice (some ⟨a.heap.size,0,none⟩) 3 3,.slice (some ⟨a.heap.size+1,0,none⟩) 3 3]:=(Bk.alloc (by have h:=Bk.new (((a.alloc (.cells #[.bool false,.string ⟨#[49]⟩,.string ⟨#[50]⟩,.bool false,.string ⟨#[49]⟩,.string ⟨#[52]⟩,.bool false,.string ⟨#[49]⟩,.string ⟨#[49]⟩] 34)).alloc (.cells #[.int .i64 1,.int .i64 2,.int .i64 0] 3)).alloc (.cells #[.bool false,.slice (some ⟨a.heap.size,0,none⟩) 3 3,.slice (some ⟨a.heap.size+1,0,none⟩) 3 3] 29)) 29 [.bool false,.slice (some ⟨a.heap.size,0,none⟩) 3 3,.slice (some ⟨a.heap.size+1,0,none⟩) 3 3];(try simp only[zK]at h);exact h:Bk ((((a.alloc (.cells #[.bool false,.string ⟨#[49]⟩,.string ⟨#[50]⟩,.bool false,.string ⟨#[49]⟩,.string ⟨#[52]⟩,.bool false,.string ⟨#[49]⟩,.string ⟨#[49]⟩] 34)).alloc (.cells #[.int .i64 1,.int .i64 2,.int .i64 0] 3)).alloc (.cells #[.bool false,.slice (some ⟨a.heap.size,0,none⟩) 3 3,.slice (some ⟨a.heap.size+1,0,none⟩) 3 3] 29)).alloc (.cells #[.bool false,.slice (some ⟨a.heap.size,0,none⟩) 3 3,.slice (some ⟨a.heap.size+1,0,none⟩) 3 3] 29)) (a.heap.size+1+1+1) 29 [.bool false,.slice (some ⟨a.heap.size,0,none⟩) 3 3,.slice (some ⟨a.heap.size+1,0,none⟩) 3 3]) (.cells #[.int .i64 2,.int .i64 1,.int .i64 0] 3));have z4_0:=z4.c0;have z4_1:=z4.c1;have z4_2:=z4.c2;have z4_9:=z4.lt;have z4_f0:=z4.frozen 0;have z4_f1:=z4.frozen 1;have z4_f2:=z4.frozen 2;clear z4;have z5:Bk ((((((a.alloc (.cells #[.bool false,.string ⟨#[49]⟩,.string ⟨#[50]⟩,.bool false,.string ⟨#[49]⟩,.string ⟨#[52]⟩,.bool false,.string ⟨#[49]⟩,.string ⟨#[49]⟩] 34)).alloc (.cells #[.int .i64 1,.int .i64 2,.int .i64 0] 3)).alloc (.cells #[.bool false,.slice (some ⟨a.heap.size,0,none⟩) 3 3,.slice (some ⟨a.heap.size+1,0,none⟩) 3 3] 29)).alloc (.cells #[.bool false,.slice (some ⟨a.heap.size,0,none⟩) 3 3,.slice (some ⟨a.heap.size+1,0,none⟩) 3 3] 29)).alloc (.cells #[.int .i64 2,.int .i64 1,.int .i64 0] 3)).setCell ⟨a.heap.size+1+1+1,2,none⟩ (.slice (some ⟨a.heap.size+1+1+1+1,0,none⟩) 3 3)) (a.heap.size+1+1) 29 [.bool false,.slice (some ⟨a.heap.size,0,none⟩) 3 3,.slice (some ⟨a.heap.size+1,0,none⟩) 3 3]:=(Bk.far (Bk.alloc (Bk.alloc (by have h:=Bk.new ((a.alloc (.cells #[.bool false,.string ⟨#[49]⟩,.string ⟨#[50]⟩,.bool false,.string ⟨#[49]⟩,.string ⟨#[52]⟩,.bool false,.string ⟨#[49]⟩,.string ⟨#[49]⟩] 34)).alloc (.cells #[.int .i64 1,.int .i64 2,.int .i64 0] 3)) 29 [.bool false,.slice (some ⟨a.heap.size,0,none⟩) 3 3,.slice (some ⟨a.heap.size+1,0,none⟩) 3 3];(try simp only[zK]at h);exact h:Bk (((a.alloc (.cells #[.bool false,.string ⟨#[49]⟩,.string ⟨#[50]⟩,.bool false,.string ⟨#[49]⟩,.string ⟨#[52]⟩,.bool false,.string ⟨#[49]⟩,.string ⟨#[49]⟩] 34)).alloc (.cells #[.int .i64 1,.int .i64 2,.int .i64 0] 3)).alloc (.cells #[.bool false,.slice (some ⟨a.heap.size,0,none⟩) 3 3,.slice (some ⟨a.heap.size+1,0,none⟩) 3 3] 29)) (a.heap.size+1+1) 29 [.bool false,.slice (some ⟨a.heap.size,0,none⟩) 3 3,.slice (some ⟨a.heap.size+1,0,none⟩) 3 3]) (.cells #[.bool false,.slice (some ⟨a.heap.size,0,none⟩) 3 3,.slice (some ⟨a.heap.size+1,0,none⟩) 3 3] 29)) (.cells #[.int .i64 2,.int .i64 1,.int .i64 0] 3)) (p:=⟨a.heap.size+1+1+1,2,none⟩) (by show (a.heap.size+1+1:Nat)≠a.heap.size+1+1+1;omega) (.slice (some ⟨a.heap.size+1+1+1+1,0,none⟩) 3 3));have z5_0:=z5.c0;have z5_1:=z5.c1;have z5_2:=z5.c2;have z5_9:=z5.lt;clear z5;have z6:Bk (((((a.alloc (.cells #[.bool false,.string ⟨#[49]⟩,.string ⟨#[50]⟩,.bool false,.string ⟨#[49]⟩,.string ⟨#[52]⟩,.bool false,.string ⟨#[49]⟩,.string ⟨#[49]⟩] 34)).alloc (.cells #[.int .i64 1,.int .i64 2,.int .i64 0] 3)).alloc (.cells #[.bool false,.slice (some ⟨a.heap.size,0,none⟩) 3 3,.slice (some ⟨a.heap.size+1,0,none⟩) 3 3] 29)).alloc (.cells #[.bool false,.slice (some ⟨a.heap.size,0,none⟩) 3 3,.slice (some ⟨a.heap.size+1+1+1+1,0,none⟩) 3 3] 29)).alloc (.cells #[.int .i64 2,.int .i64 1,.int .i64 0] 3)) (a.heap.size+1+1) 29 [.bool false,.slice (some ⟨a.heap.size,0,none⟩) 3 3,.slice (some ⟨a.heap.size+1,0,none⟩) 3 3]:=(Bk.alloc (Bk.alloc (by have h:=Bk.new ((a.alloc (.cells #[.bool false,.string ⟨#[49]⟩,.string ⟨#[50]⟩,.bool false,.string ⟨#[49]⟩,.string ⟨#[52]⟩,.bool false,.string ⟨#[49]⟩,.string ⟨#[49]⟩] 34)).alloc (.cells #[.int .i64 1,.int .i64 2,.int .i64 0] 3)) 29 [.bool false,.slice (some ⟨a.heap.size,0,none⟩) 3 3,.slice (some ⟨a.heap.size+1,0,none⟩) 3 3];(try simp only[zK]at h);exact h:Bk (((a.alloc (.cells #[.bool false,.string ⟨#[49]⟩,.string ⟨#[50]⟩,.bool false,.string ⟨#[49]⟩,.string ⟨#[52]⟩,.bool false,.string ⟨#[49]⟩,.string ⟨#[49]⟩] 34)).alloc (.cells #[.int .i64 1,.int .i64 2,.int .i64 0] 3)).alloc (.cells #[.bool false,.slice (some ⟨a.heap.size,0,none⟩) 3 3,.slice (some ⟨a.heap.size+1,0,none⟩) 3 3] 29)) (a.heap.size+1+1) 29 [.bool false,.slice (some ⟨a.heap.size,0,none⟩) 3 3,.slice (some ⟨a.heap.size+1,0,none⟩) 3 3]) (.cells #[.bool false,.slice (some ⟨a.heap.size,0,none⟩) 3 3,.slice (some ⟨a.heap.size+1+1+1+1,0,none⟩) 3 3] 29)) (.cells #[.int .i64 2,.int .i64 1,.int .i64 0] 3));have z6_0:=z6.c0;have z6_1:=z6.c1;have z6_2:=z6.c2;have z6_9:=z6.lt;clear z6;obtain⟨ag,aa⟩:∃X,X=((((((a.alloc (.cells #[.bool false,.string ⟨#[49]⟩,.string ⟨#[50]⟩,.bool false,.string ⟨#[49]⟩,.string ⟨#[52]⟩,.bool false,.string ⟨#[49]⟩,.string ⟨#[49]⟩] 34)).alloc (.cells #[.int .i64 1,.int .i64 2,.int .i64 0] 3)).alloc (.cells #[.bool false,.slice (some ⟨a.heap.size,0,none⟩) 3 3,.slice (some ⟨a.heap.size+1,0,none⟩) 3 3] 29)).alloc (.cells #[.bool false,.slice (some ⟨a.heap.size,0,none⟩) 3 3,.slice (some ⟨a.heap.size+1+1+1+1,0,none⟩) 3 3] 29)).alloc (.cells #[.int .i64 2,.int .i64 1,.int .i64 0] 3)).alloc (.cells #[.bool true,.slice (some ⟨a.heap.size,0,none⟩) 3 3,.slice none 0 0] 29)):=⟨_,rfl⟩;have hd:Below a.heap.size a ag:=by rw[aa];exact((((((zI _ a).alloc (zA _) _).alloc (by simp) _).alloc (by simp;omega) _).alloc (by simp;omega) _).alloc (by simp;omega) _).alloc (by simp;omega) _
 have az:=zh (ay.o.trans (hd.mono ay.o.size));have b8:=zh (b7.o.below hd);have eC:=zh (eB.o.below hd);have cB:=zh (cA.o.below hd (zA _));have ck:=zh (cj.o.below hd);have cY:=zh (cX.o.below hd);have bS:=zh (bR.o.below hd (zA _));have dq:=zh (dl.o.below hd);have e8:=zh (e7.o.below hd);clear hd ay b7 eB cA cj cX bR dl e7;have fl:Bk ag (a.heap.size) 34 [.bool false,.string ⟨#[49]⟩,.string ⟨#[50]⟩,.bool false,.string ⟨#[49]⟩,.string ⟨#[52]⟩,.bool false,.string ⟨#[49]⟩,.string ⟨#[49]⟩]:=by rw[aa];exact(Bk.alloc (Bk.alloc (Bk.alloc (Bk.alloc (Bk.alloc (by have h:=Bk.new a 34 [.bool false,.string ⟨#[49]⟩,.string ⟨#[50]⟩,.bool false,.string ⟨#[49]⟩,.string ⟨#[52]⟩,.bool false,.string ⟨#[49]⟩,.string ⟨#[49]⟩];(try simp only[zK]at h);exact h:Bk (a.alloc (.cells #[.bool false,.string ⟨#[49]⟩,.string ⟨#[50]⟩,.bool false,.string ⟨#[49]⟩,.string ⟨#[52]⟩,.bool false,.string ⟨#[49]⟩,.string ⟨#[49]⟩] 34)) (a.heap.size) 34 [.bool false,.string ⟨#[49]⟩,.string ⟨#[50]⟩,.bool false,.string ⟨#[49]⟩,.string ⟨#[52]⟩,.bool false,.string ⟨#[49]⟩,.string ⟨#[49]⟩]) (.cells #[.int .i64 1,.int .i64 2,.int .i64 0] 3)) (.cells #[.bool false,.slice (some ⟨a.heap.size,0,none⟩) 3 3,.slice (some ⟨a.heap.size+1,0,none⟩) 3 3] 29)) (.cells #[.bool false,.slice (some ⟨a.heap.size,0,none⟩) 3 3,.slice (some ⟨a.heap.size+1+1+1+1,0,none⟩) 3 3] 29)) (.cells #[.int .i64 2,.int .i64 1,.int .i64 0] 3)) (.cells #[.bool true,.slice (some ⟨a.heap.size,0,none⟩) 3 3,.slice none 0 0] 29))
 have fr:Bk ag (a.heap.size+1) 3 [.int .i64 1,.int .i64 2,.int .i64 0]:=by rw[aa];exact(Bk.alloc (Bk.alloc (Bk.alloc (Bk.alloc (by have h:=Bk.new (a.alloc (.cells #[.bool false,.string ⟨#[49]⟩,.string ⟨#[50]⟩,.bool false,.string ⟨#[49]⟩,.string ⟨#[52]⟩,.bool false,.string ⟨#[49]⟩,.string ⟨#[49]⟩] 34)) 3 [.int .i64 1,.int .i64 2,.int .i64 0];(try simp only[zK]at h);exact h:Bk ((a.alloc (.cells #[.bool false,.string ⟨#[49]⟩,.string ⟨#[50]⟩,.bool false,.string ⟨#[49]⟩,.string ⟨#[52]⟩,.bool false,.string ⟨#[49]⟩,.string ⟨#[49]⟩] 34)).alloc (.cells #[.int .i64 1,.int .i64 2,.int .i64 0] 3)) (a.heap.size+1) 3 [.int .i64 1,.int .i64 2,.int .i64 0]) (.cells #[.bool false,.slice (some ⟨a.heap.size,0,none⟩) 3 3,.slice (some ⟨a.heap.size+1,0,none⟩) 3 3] 29)) (.cells #[.bool false,.slice (some ⟨a.heap.size,0,none⟩) 3 3,.slice (some ⟨a.heap.size+1+1+1+1,0,none⟩) 3 3] 29)) (.cells #[.int .i64 2,.int .i64 1,.int .i64 0] 3)) (.cells #[.bool true,.slice (some ⟨a.heap.size,0,none⟩) 3 3,.slice none 0 0] 29))
 have fo:Bk ag (a.heap.size+1+1) 29 [.bool false,.slice (some ⟨a.heap.size,0,none⟩) 3 3,.slice (some ⟨a.heap.size+1,0,none⟩) 3 3]:=by rw[aa];exact(Bk.alloc (Bk.alloc (Bk.alloc (by have h:=Bk.new ((a.alloc (.cells #[.bool false,.string ⟨#[49]⟩,.string ⟨#[50]⟩,.bool false,.string ⟨#[49]⟩,.string ⟨#[52]⟩,.bool false,.string ⟨#[49]⟩,.string ⟨#[49]⟩] 34)).alloc (.cells #[.int .i64 1,.int .i64 2,.int .i64 0] 3)) 29 [.bool false,.slice (some ⟨a.heap.size,0,none⟩) 3 3,.slice (some ⟨a.heap.size+1,0,none⟩) 3 3];(try simp only[zK]at h);exact h:Bk (((a.alloc (.cells #[.bool false,.string ⟨#[49]⟩,.string ⟨#[50]⟩,.bool false,.string ⟨#[49]⟩,.string ⟨#[52]⟩,.bool false,.string ⟨#[49]⟩,.string ⟨#[49]⟩] 34)).alloc (.cells #[.int .i64 1,.int .i64 2,.int .i64 0] 3)).alloc (.cells #[.bool false,.slice (some ⟨a.heap.size,0,none⟩) 3 3,.slice (some ⟨a.heap.size+1,0,none⟩) 3 3] 29)) (a.heap.size+1+1) 29 [.bool false,.slice (some ⟨a.heap.size,0,none⟩) 3 3,.slice (some ⟨a.heap.size+1,0,none⟩) 3 3]) (.cells #[.bool false,.slice (some ⟨a.heap.size,0,none⟩) 3 3,.slice (some ⟨a.heap.size+1+1+1+1,0,none⟩) 3 3] 29)) (.cells #[.int .i64 2,.int .i64 1,.int .i64 0] 3)) (.cells #[.bool true,.slice (some ⟨a.heap.size,0,none⟩) 3 3,.slice none 0 0] 29))
 have ft:Bk ag (a.heap.size+1+1+1) 29 [.bool false,.slice (some ⟨a.heap.size,0,none⟩) 3 3,.slice (some ⟨a.heap.size+1+1+1+1,0,none⟩) 3 3]:=by rw[aa];exact(Bk.alloc (Bk.alloc (by have h:=Bk.new (((a.alloc (.cells #[.bool false,.string ⟨#[49]⟩,.string ⟨#[50]⟩,.bool false,.string ⟨#[49]⟩,.string ⟨#[52]⟩,.bool false,.string ⟨#[49]⟩,.string ⟨#[49]⟩] 34)).alloc (.cells #[.int .i64 1,.int .i64 2,.int .i64 0] 3)).alloc (.cells #[.bool false,.slice (some ⟨a.heap.size,0,none⟩) 3 3,.slice (some ⟨a.heap.size+1,0,none⟩) 3 3] 29)) 29 [.bool false,.slice (some ⟨a.heap.size,0,none⟩) 3 3,.slice (some ⟨a.heap.size+1+1+1+1,0,none⟩) 3 3];(try simp only[zK]at h);exact h:Bk ((((a.alloc (.cells #[.bool false,.string ⟨#[49]⟩,.string ⟨#[50]⟩,.bool false,.string ⟨#[49]⟩,.string ⟨#[52]⟩,.bool false,.string ⟨#[49]⟩,.string ⟨#[49]⟩] 34)).alloc (.cells #[.int .i64 1,.int .i64 2,.int .i64 0] 3)).alloc (.cells #[.bool false,.slice (some ⟨a.heap.size,0,none⟩) 3 3,.slice (some ⟨a.heap.size+1,0,none⟩) 3 3] 29)).alloc (.cells #[.bool false,.slice (some ⟨a.heap.size,0,none⟩) 3 3,.slice (some ⟨a.heap.size+1+1+1+1,0,none⟩) 3 3] 29)) (a.heap.size+1+1+1) 29 [.bool false,.slice (some ⟨a.heap.size,0,none⟩) 3 3,.slice (some ⟨a.heap.size+1+1+1+1,0,none⟩) 3 3]) (.cells #[.int .i64 2,.int .i64 1,.int .i64 0] 3)) (.cells #[.bool true,.slice (some ⟨a.heap.size,0,none⟩) 3 3,.slice none 0 0] 29))
 have fk:Bk ag (a.heap.size+1+1+1+1) 3 [.int .i64 2,.int .i64 1,.int .i64 0]:=by rw[aa];exact(Bk.alloc (by have h:=Bk.new ((((a.alloc (.cells #[.bool false,.string ⟨#[49]⟩,.string ⟨#[50]⟩,.bool false,.string ⟨#[49]⟩,.string ⟨#[52]⟩,.bool false,.string ⟨#[49]⟩,.string ⟨#[49]⟩] 34)).alloc (.cells #[.int .i64 1,.int .i64 2,.int .i64 0] 3)).alloc (.cells #[.bool false,.slice (some ⟨a.heap.size,0,none⟩) 3 3,.slice (some ⟨a.heap.size+1,0,none⟩) 3 3] 29)).alloc (.cells #[.bool false,.slice (some ⟨a.heap.size,0,none⟩) 3 3,.slice (some ⟨a.heap.size+1+1+1+1,0,none⟩) 3 3] 29)) 3 [.int .i64 2,.int .i64 1,.int .i64 0];(try simp only[zK]at h);exact h:Bk (((((a.alloc (.cells #[.bool false,.string ⟨#[49]⟩,.string ⟨#[50]⟩,.bool false,.string ⟨#[49]⟩,.string ⟨#[52]⟩,.bool false,.string ⟨#[49]⟩,.string ⟨#[49]⟩] 34)).alloc (.cells #[.int .i64 1,.int .i64 2,.int .i64 0] 3)).alloc (.cells #[.bool false,.slice (some ⟨a.heap.size,0,none⟩) 3 3,.slice (some ⟨a.heap.size+1,0,none⟩) 3 3] 29)).alloc (.cells #[.bool false,.slice (some ⟨a.heap.size,0,none⟩) 3 3,.slice (some ⟨a.heap.size+1+1+1+1,0,none⟩) 3 3] 29)).alloc (.cells #[.int .i64 2,.int .i64 1,.int .i64 0] 3)) (a.heap.size+1+1+1+1) 3 [.int .i64 2,.int .i64 1,.int .i64 0]) (.cells #[.bool true,.slice (some ⟨a.heap.size,0,none⟩) 3 3,.slice none 0 0] 29))
 have fu:Bk ag (a.heap.size+1+1+1+1+1) 29 [.bool true,.slice (some ⟨a.heap.size,0,none⟩) 3 3,.slice none 0 0]:=by rw[aa];exact(by have h:=Bk.new (((((a.alloc (.cells #[.bool false,.string ⟨#[49]⟩,.string ⟨#[50]⟩,.bool false,.string ⟨#[49]⟩,.string ⟨#[52]⟩,.bool false,.string ⟨#[49]⟩,.string ⟨#[49]⟩] 34)).alloc (.cells #[.int .i64 1,.int .i64 2,.int .i64 0] 3)).alloc (.cells #[.bool false,.slice (some ⟨a.heap.size,0,none⟩) 3 3,.slice (some ⟨a.heap.size+1,0,none⟩) 3 3] 29)).alloc (.cells #[.bool false,.slice (some ⟨a.heap.size,0,none⟩) 3 3,.slice (some ⟨a.heap.size+1+1+1+1,0,none⟩) 3 3] 29)).alloc (.cells #[.int .i64 2,.int .i64 1,.int .i64 0] 3)) 29 [.bool true,.slice (some ⟨a.heap.size,0,none⟩) 3 3,.slice none 0 0];(try simp only[zK]at h);exact h:Bk ((((((a.alloc (.cells #[.bool false,.string ⟨#[49]⟩,.string ⟨#[50]⟩,.bool false,.string ⟨#[49]⟩,.string ⟨#[52]⟩,.bool false,.string ⟨#[49]⟩,.string ⟨#[49]⟩] 34)).alloc (.cells #[.int .i64 1,.int .i64 2,.int .i64 0] 3)).alloc (.cells #[.bool false,.slice (some ⟨a.heap.size,0,none⟩) 3 3,.slice (some ⟨a.heap.size+1,0,none⟩) 3 3] 29)).alloc (.cells #[.bool false,.slice (some ⟨a.heap.size,0,none⟩) 3 3,.slice (some ⟨a.heap.size+1+1+1+1,0,none⟩) 3 3] 29)).alloc (.cells #[.int .i64 2,.int .i64 1,.int .i64 0] 3)).alloc (.cells #[.bool true,.slice (some ⟨a.heap.size,0,none⟩) 3 3,.slice none 0 0] 29)) (a.heap.size+1+1+1+1+1) 29 [.bool true,.slice (some ⟨a.heap.size,0,none⟩) 3 3,.slice none 0 0])
 obtain⟨bl,fD⟩:∃x,x=a.heap.size:=⟨_,rfl⟩
 go_wp2_with fail
 (try rw[<-aa])
 simp only[<-fD]at fl fr fo ft fk fu ⊢;obtain⟨bu,fG⟩:∃x,x=bl+1+1+1+1+1:=⟨_,rfl⟩;obtain⟨bk,fC⟩:∃x,x=bl+1+1+1+1:=⟨_,rfl⟩;obtain⟨bt,fF⟩:∃x,x=bl+1+1+1:=⟨_,rfl⟩;obtain⟨bo,fE⟩:∃x,x=bl+1+1:=⟨_,rfl⟩;obtain⟨rr,fJ⟩:∃x,x=bl+1:=⟨_,rfl⟩;simp only[<-fG]at fu ⊢;simp only[<-fC]at ft fk ⊢;simp only[<-fF]at ft ⊢;simp only[<-fE]at fo ⊢;simp only[<-fJ]at fr fo ⊢;replace aa:=zh aa;replace fD:=zh fD;replace fJ:=zh fJ;replace fE:=zh fE;replace fF:=zh fF;replace fC:=zh fC;replace fG:=zh fG;have dT:=zh fl;clear fl;have ek:=zh fr;clear fr;have d9:=zh fo;clear fo;have eI:=zh ft;clear ft;have dI:=zh fk;clear fk;have eT:=zh fu;clear fu;have kk:=Cm ⟨#[49]⟩ ⟨#[49]⟩ ag;refine kk.mono ?_;clear kk;rintro e gC ⟨rfl,hb⟩;have aA:=zh (az.o.trans (hb.mono az.o.size));have b9:=zh (b8.o.below hb);have eD:=zh (eC.o.below hb);have cC:=zh (cB.o.below hb (zA _));have cl:=zh (ck.o.below hb);have cZ:=zh (cY.o.below hb);have bT:=zh (bS.o.below hb (zA _));have dr:=zh (dq.o.below hb);have e9:=zh (e8.o.below hb);have dU:=zh (dT.o.below hb);have el:=zh (ek.o.below hb);have ea:=zh (d9.o.below hb);have eJ:=zh (eI.o.below hb);have dJ:=zh (dI.o.below hb);have eU:=zh (eT.o.below hb);clear hb az b8 eC cB ck cY bS dq e8 dT ek d9 eI dI eT;clear z3_0 z3_1 z3_2 z3_9 z4_0 z4_1 z4_2 z4_9 z4_f0 z4_f1 z4_f2 z5_0 z5_1 z5_2 z5_9 z6_0 z6_1 z6_2 z6_9
 go_wp2_with fail
 have kk:=Cm ⟨#[49]⟩ ⟨#[49]⟩ gC;refine kk.mono ?_;clear kk;rintro e gD ⟨rfl,hb⟩;have aB:=zh (aA.o.trans (hb.mono aA.o.size));have ca:=zh (b9.o.below hb);have eE:=zh (eD.o.below hb);have cD:=zh (cC.o.below hb (zA _));have cm:=zh (cl.o.below hb);have c8:=zh (cZ.o.below hb);have bU:=zh (bT.o.below hb (zA _));have ds:=zh (dr.o.below hb);have fa:=zh (e9.o.below hb);have dV:=zh (dU.o.below hb);have em:=zh (el.o.below hb);have eb:=zh (ea.o.below hb);have eK:=zh (eJ.o.below hb);have dK:=zh (dJ.o.below hb);have eV:=zh (eU.o.below hb);clear hb aA b9 eD cC cl cZ bT dr e9 dU el ea eJ dJ eU
 go_wp2_with fail
 have kk:=Cm ⟨#[49]⟩ ⟨#[49]⟩ gD;refine kk.mono ?_;clear kk;rintro e d ⟨rfl,hb⟩;have aC:=zh (aB.o.trans (hb.mono aB.o.size));have cc:=zh (ca.o.below hb);have eF:=zh (eE.o.below hb);have cE:=zh (cD.o.below hb (zA _));have cn:=zh (cm.o.below hb);have aT:=zh (c8.o.below hb);have bW:=zh (bU.o.below hb (zA _));have dt:=zh (ds.o.below hb);have fc:=zh (fa.o.below hb);have dW:=zh (dV.o.below hb);have en:=zh (em.o.below hb);have ec:=zh (eb.o.below hb);have eL:=zh (eK.o.below hb);have dL:=zh (dK.o.below hb);have eW:=zh (eV.o.below hb);clear hb aB ca eE cD cm c8 bU ds fa dV em eb eK dK eV;have z7:Bk ((d.alloc (.cells #[.bool false,.string ⟨#[49]⟩,.string ⟨#[49]⟩,.bool false,.string ⟨#[49]⟩,.string ⟨#[49]⟩,.bool false,.string ⟨#[49]⟩,.string ⟨#[49]⟩] 34)).alloc (.cells #[.bool true,.slice (some ⟨d.heap.size,0,none⟩) 3 3,.slice none 0 0] 29)) bc 29 [.bool false,.slice (some ⟨bv,0,none⟩) 3 3,.slice (some ⟨br,0,none⟩) 3 3]:=(Bk.alloc (Bk.alloc aT.o (.cells #[.bool false,.string ⟨#[49]⟩,.string ⟨#[49]⟩,.bool false,.string ⟨#[49]⟩,.string ⟨#[49]⟩,.bool false,.string ⟨#[49]⟩,.string ⟨#[49]⟩] 34)) (.cells #[.bool true,.slice (some ⟨d.heap.size,0,none⟩) 3 3,.slice none 0 0] 29));have z7_0:=z7.c0;have z7_1:=z7.c1;have z7_2:=z7.c2;have z7_9:=z7.lt;clear z7;obtain⟨ar,ad⟩:∃X,X=(((d.alloc (.cells #[.bool false,.string ⟨#[49]⟩,.string ⟨#[49]⟩,.bool false,.string ⟨#[49]⟩,.string ⟨#[49]⟩,.bool false,.string ⟨#[49]⟩,.string ⟨#[49]⟩] 34)).alloc (.cells #[.bool true,.slice (some ⟨d.heap.size,0,none⟩) 3 3,.slice none 0 0] 29)).alloc (.cells #[.int .i64 1,.int .i64 2,.int .i64 0] 3)):=⟨_,rfl⟩;have hd:Below d.heap.size d ar:=by rw[ad];exact((((zI _ d).alloc (zA _) _).alloc (by simp) _).alloc (by simp;omega) _)
 have aD:=zh (aC.o.trans (hd.mono aC.o.size));have cd:=zh (cc.o.below hd);have eG:=zh (eF.o.below hd);have aP:=zh (cE.o.below hd (zA _));have aN:=zh (cn.o.below hd);have c9:=zh (aT.o.below hd);have bX:=zh (bW.o.below hd (zA _));have du:=zh (dt.o.below hd);have bm:=zh (fc.o.below hd);have dX:=zh (dW.o.below hd);have eo:=zh (en.o.below hd);have ed:=zh (ec.o.below hd);have eM:=zh (eL.o.below hd);have dM:=zh (dL.o.below hd);have eX:=zh (eW.o.below hd);clear hd aC cc eF cE cn aT bW dt fc dW en ec eL dL eW;obtain⟨bn,aS⟩:∃x,x=(d.heap.size):=⟨_,rfl⟩;have d2:Hid (Bk ar bn 34 [.bool false,.string ⟨#[49]⟩,.string ⟨#[49]⟩,.bool false,.string ⟨#[49]⟩,.string ⟨#[49]⟩,.bool false,.string ⟨#[49]⟩,.string ⟨#[49]⟩]):=by rw[ad,aS];exact(Bk.alloc (Bk.alloc (by have h:=Bk.new d 34 [.bool false,.string ⟨#[49]⟩,.string ⟨#[49]⟩,.bool false,.string ⟨#[49]⟩,.string ⟨#[49]⟩,.bool false,.string ⟨#[49]⟩,.string ⟨#[49]⟩];(try simp only[zK]at h);exact h:Bk (d.alloc (.cells #[.bool false,.string ⟨#[49]⟩,.string ⟨#[49]⟩,.bool false,.string ⟨#[49]⟩,.string ⟨#[49]⟩,.bool false,.string ⟨#[49]⟩,.string ⟨#[49]⟩] 34)) (d.heap.size) 34 [.bool false,.string ⟨#[49]⟩,.string ⟨#[49]⟩,.bool false,.string ⟨#[49]⟩,.string ⟨#[49]⟩,.bool false,.string ⟨#[49]⟩,.string ⟨#[49]⟩]) (.cells #[.bool true,.slice (some ⟨d.heap.size,0,none⟩) 3 3,.slice none 0 0] 29)) (.cells #[.int .i64 1,.int .i64 2,.int .i64 0] 3))
 obtain⟨ba,bF⟩:∃x,x=(d.heap.size+1):=⟨_,rfl⟩;have an:Hid (Bk ar ba 29 [.bool true,.slice (some ⟨d.heap.size,0,none⟩) 3 3,.slice none 0 0]):=by rw[ad,bF];exact(Bk.alloc (by have h:=Bk.new (d.alloc (.cells #[.bool false,.string ⟨#[49]⟩,.string ⟨#[49]⟩,.bool false,.string ⟨#[49]⟩,.string ⟨#[49]⟩,.bool false,.string ⟨#[49]⟩,.string ⟨#[49]⟩] 34)) 29 [.bool true,.slice (some ⟨d.heap.size,0,none⟩) 3 3,.slice none 0 0];(try simp only[zK]at h);exact h:Bk ((d.alloc (.cells #[.bool false,.string ⟨#[49]⟩,.string ⟨#[49]⟩,.bool false,.string ⟨#[49]⟩,.string ⟨#[49]⟩,.bool false,.string ⟨#[49]⟩,.string ⟨#[49]⟩] 34)).alloc (.cells #[.bool true,.slice (some ⟨d.heap.size,0,none⟩) 3 3,.slice none 0 0] 29)) (d.heap.size+1) 29 [.bool true,.slice (some ⟨d.heap.size,0,none⟩) 3 3,.slice none 0 0]) (.cells #[.int .i64 1,.int .i64 2,.int .i64 0] 3))
 obtain⟨be,bI⟩:∃x,x=(d.heap.size+1+1):=⟨_,rfl⟩;have aX:Hid (Bk ar be 3 [.int .i64 1,.int .i64 2,.int .i64 0]):=by rw[ad,bI];exact(by have h:=Bk.new ((d.alloc (.cells #[.bool false,.string ⟨#[49]⟩,.string ⟨#[49]⟩,.bool false,.string ⟨#[49]⟩,.string ⟨#[49]⟩,.bool false,.string ⟨#[49]⟩,.string ⟨#[49]⟩] 34)).alloc (.cells #[.bool true,.slice (some ⟨d.heap.size,0,none⟩) 3 3,.slice none 0 0] 29)) 3 [.int .i64 1,.int .i64 2,.int .i64 0];(try simp only[zK]at h);exact h:Bk (((d.alloc (.cells #[.bool false,.string ⟨#[49]⟩,.string ⟨#[49]⟩,.bool false,.string ⟨#[49]⟩,.string ⟨#[49]⟩,.bool false,.string ⟨#[49]⟩,.string ⟨#[49]⟩] 34)).alloc (.cells #[.bool true,.slice (some ⟨d.heap.size,0,none⟩) 3 3,.slice none 0 0] 29)).alloc (.cells #[.int .i64 1,.int .i64 2,.int .i64 0] 3)) (d.heap.size+1+1) 3 [.int .i64 1,.int .i64 2,.int .i64 0])
 go_wp2_with fail
 (try rw[<-ad])
 (try rw[<-bI])
 (try rw[<-bF])
 (try rw[<-aS])
 replace ad:=zh ad;replace aS:=zh aS;replace bF:=zh bF;replace bI:=zh bI;have an:=zh (show Bk ar ba 29 [.bool true,.slice (some ⟨bn,0,none⟩) 3 3,.slice none 0 0] from by have h:=an.o;rw[<-aS.o]at h;exact h);have kk:=UW false _ _ _ _ 3 [1,2,0] q2 q1 1 ar rfl aP.o (Wx bm.o) aN.o (Ku aX.o) (by decide);refine kk.mono ?_;clear kk;rintro e gp ⟨rfl,hb⟩;have aE:=zh (aD.o.trans (hb.mono aD.o.size));have ce:=zh (cd.o.below hb);have eH:=zh (eG.o.below hb);have cF:=zh (aP.o.below hb (zA _));have co:=zh (aN.o.below hb);have da:=zh (c9.o.below hb);have aF:=zh (bX.o.below hb (zA _));have aV:=zh (du.o.below hb);have bp:=zh (bm.o.below hb);have dY:=zh (dX.o.below hb);have ep:=zh (eo.o.below hb);have ee:=zh (ed.o.below hb);have eN:=zh (eM.o.below hb);have dN:=zh (dM.o.below hb);have eY:=zh (eX.o.below hb);have d3:=zh (d2.o.below hb);have cL:=zh (an.o.below hb);have dB:=zh (aX.o.below hb);clear hb aD cd eG aP aN c9 bX du bm dX eo ed eM dM eX d2 an aX;clear z7_0 z7_1 z7_2 z7_9;have z8:Bk gp bd 29 [.bool true,.slice (some ⟨bw,0,none⟩) 3 3,.slice none 0 0]:=aV.o;have z8_0:=z8.c0;have z8_1:=z8.c1;have z8_2:=z8.c2;have z8_9:=z8.lt;clear z8
 go_wp2_with fail
 have kk:=UW true _ _ _ _ 0 [] q2 q1 1 gp rfl aF.o (Wx bp.o) (I9 _) (I9 _) (by decide);refine kk.mono ?_;clear kk;rintro e gq ⟨rfl,hb⟩;have ah:=zh (aE.o.trans (hb.mono aE.o.size));have aH:=zh (ce.o.below hb);have a5:=zh (eH.o.below hb);have aQ:=zh (cF.o.below hb (zA _));have aO:=zh (co.o.below hb);have aU:=zh (da.o.below hb);have bY:=zh (aF.o.below hb (zA _));have dw:=zh (aV.o.below hb);have fe:=zh (bp.o.below hb);have dZ:=zh (dY.o.below hb);have er:=zh (ep.o.below hb);have ef:=zh (ee.o.below hb);have eO:=zh (eN.o.below hb);have dO:=zh (dN.o.below hb);have eZ:=zh (eY.o.below hb);have d4:=zh (d3.o.below hb);have cM:=zh (cL.o.below hb);have dC:=zh (dB.o.below hb);clear hb aE ce eH cF co da aF aV bp dY ep ee eN dN eY d3 cL dB;clear z8_0 z8_1 z8_2 z8_9;have z9:Bk gq bc 29 [.bool false,.slice (some ⟨bv,0,none⟩) 3 3,.slice (some ⟨br,0,none⟩) 3 3]:=aU.o;have z9_0:=z9.c0;have z9_1:=z9.c1;have z9_2:=z9.c2;have z9_9:=z9.lt;clear z9
 go_wp2_with fail
 have kk:=PY gq pb cb bs (hE.o.below ah.o) aH.o a5.o false _ _ 3 q2 q1 1 [1,2,0] true rfl (by decide) aQ.o aO.o (by decide +kernel) (iff_of_true rfl (Ox (by decide +kernel) (by decide +kernel) (by decide +kernel) J9 (by decide +kernel) (by decide +kernel) (by decide +kernel)));refine kk.mono ?_;clear kk;rintro e gs ⟨rfl,hb⟩;have ai:=zh (ah.o.trans (hb.mono ah.o.size));have aI:=zh (aH.o.below hb);have a6:=zh (a5.o.below hb);have cG:=zh (aQ.o.below hb (zA _));have cq:=zh (aO.o.below hb);have db:=zh (aU.o.below hb);have aG:=zh (bY.o.below hb (zA _));have aW:=zh (dw.o.below hb);have ff:=zh (fe.o.below hb);have d0:=zh (dZ.o.below hb);have es:=zh (er.o.below hb);have eg:=zh (ef.o.below hb);have eP:=zh (eO.o.below hb);have dP:=zh (dO.o.below hb);have e0:=zh (eZ.o.below hb);have d5:=zh (d4.o.below hb);have cN:=zh (cM.o.below hb);have dD:=zh (dC.o.below hb);clear hb ah aH a5 aQ aO aU bY dw fe dZ er ef eO dO eZ d4 cM dC;clear z9_0 z9_1 z9_2 z9_9;have bq:Bk gs bd 29 [.bool true,.slice (some ⟨bw,0,none⟩) 3 3,.slice none 0 0]:=aW.o;have z10_0:=bq.c0;have z10_1:=bq.c1;have z10_2:=bq.c2;have z10_9:=bq.lt;clear bq
 go_wp2_with fail
 have kk:=PY gs pb cb bs (hE.o.below ai.o) aI.o a6.o true _ _ 0 q2 q1 1 [] true rfl (by decide) aG.o (I9 _) (by decide +kernel) (iff_of_true rfl ((Nv rfl J9).2 (by decide +kernel)));refine kk.mono ?_;clear kk;rintro e gu ⟨rfl,hb⟩;have aj:=zh (ai.o.trans (hb.mono ai.o.size));have aJ:=zh (aI.o.below hb);have a7:=zh (a6.o.below hb);have cH:=zh (cG.o.below hb (zA _));have cr:=zh (cq.o.below hb);have dc:=zh (db.o.below hb);have bZ:=zh (aG.o.below hb (zA _));have dx:=zh (aW.o.below hb);have fh:=zh (ff.o.below hb);have d1:=zh (d0.o.below hb);have et:=zh (es.o.below hb);have eh:=zh (eg.o.below hb);have eQ:=zh (eP.o.below hb);have dQ:=zh (dP.o.below hb);have e1:=zh (e0.o.below hb);have a2:=zh (d5.o.below hb);have aR:=zh (cN.o.below hb);have dE:=zh (dD.o.below hb);clear hb ai aI a6 cG cq db aG aW ff d0 es eg eP dP e0 d5 cN dD;clear z10_0 z10_1 z10_2 z10_9;have bz:Bk gu ba 29 [.bool true,.slice (some ⟨bn,0,none⟩) 3 3,.slice none 0 0]:=aR.o;have z11_0:=bz.c0;have z11_1:=bz.c1;have z11_2:=bz.c2;have z11_9:=bz.lt;clear bz
 go_wp2_with fail
 have kk:=PY gu pb cb bs (hE.o.below aj.o) aJ.o a7.o true _ _ 0 1 1 1 [] true rfl (by decide) (WL a2.o) (I9 _) (by decide +kernel) (iff_of_true rfl ((Nv rfl SV).2 (by decide +kernel)));refine kk.mono ?_;clear kk;rintro e gv ⟨rfl,hb⟩;have ak:=zh (aj.o.trans (hb.mono aj.o.size));have aK:=zh (aJ.o.below hb);have a8:=zh (a7.o.below hb);have cI:=zh (cH.o.below hb (zA _));have ct:=zh (cr.o.below hb);have dd:=zh (dc.o.below hb);have b0:=zh (bZ.o.below hb (zA _));have dy:=zh (dx.o.below hb);have fi:=zh (fh.o.below hb);have aZ:=zh (d1.o.below hb);have eu:=zh (et.o.below hb);have ei:=zh (eh.o.below hb);have eR:=zh (eQ.o.below hb);have dR:=zh (dQ.o.below hb);have bi:=zh (e1.o.below hb);have d6:=zh (a2.o.below hb);have cP:=zh (aR.o.below hb);have dF:=zh (dE.o.below hb);clear hb aj aJ a7 cH cr dc bZ dx fh d1 et eh eQ dQ e1 a2 aR dE;clear z11_0 z11_1 z11_2 z11_9;have bA:Bk gv bu 29 [.bool true,.slice (some ⟨bl,0,none⟩) 3 3,.slice none 0 0]:=bi.o;have z12_0:=bA.c0;have z12_1:=bA.c1;have z12_2:=bA.c2;have z12_9:=bA.lt;clear bA
 go_wp2_with fail
 have kk:=PY gv pb cb bs (hE.o.below ak.o) aK.o a8.o true _ _ 0 (1/2) (1/4) 1 [] false rfl (by decide) (VJ aZ.o) (I9 _) (by decide +kernel) (iff_of_false (by decide) (fun h=>absurd ((Nv rfl Oy).1 h) (by decide +kernel)));refine kk.mono ?_;clear kk;rintro e gw ⟨rfl,hb⟩;have al:=zh (ak.o.trans (hb.mono ak.o.size));have aL:=zh (aK.o.below hb);have a9:=zh (a8.o.below hb);have cJ:=zh (cI.o.below hb (zA _));have cu:=zh (ct.o.below hb);have de:=zh (dd.o.below hb);have b1:=zh (b0.o.below hb (zA _));have dz:=zh (dy.o.below hb);have fj:=zh (fi.o.below hb);have a0:=zh (aZ.o.below hb);have a4:=zh (eu.o.below hb);have a3:=zh (ei.o.below hb);have eS:=zh (eR.o.below hb);have dS:=zh (dR.o.below hb);have e2:=zh (bi.o.below hb);have d7:=zh (d6.o.below hb);have cR:=zh (cP.o.below hb);have dG:=zh (dF.o.below hb);clear hb ak aK a8 cI ct dd b0 dy fi aZ eu ei eR dR bi d6 cP dF;clear z12_0 z12_1 z12_2 z12_9;have bB:Bk gw bo 29 [.bool false,.slice (some ⟨bl,0,none⟩) 3 3,.slice (some ⟨rr,0,none⟩) 3 3]:=a3.o;have z13_0:=bB.c0;have z13_1:=bB.c1;have z13_2:=bB.c2;have z13_9:=bB.lt;clear bB
 go_wp2_with fail
 have kk:=PY gw pb cb bs (hE.o.below al.o) aL.o a9.o false _ _ 3 (1/2) (1/4) 1 [1,2,0] true rfl (by decide) (VJ a0.o) (Ku a4.o) (by decide +kernel) (iff_of_true rfl (Ox (by decide +kernel) (by decide +kernel) (by decide +kernel) Oy (by decide +kernel) (by decide +kernel) (by decide +kernel)));refine kk.mono ?_;clear kk;rintro e gx ⟨rfl,hb⟩;have am:=zh (al.o.trans (hb.mono al.o.size));have aM:=zh (aL.o.below hb);have bb:=zh (a9.o.below hb);have cK:=zh (cJ.o.below hb (zA _));have cv:=zh (cu.o.below hb);have df:=zh (de.o.below hb);have b2:=zh (b1.o.below hb (zA _));have dA:=zh (dz.o.below hb);have fm:=zh (fj.o.below hb);have a1:=zh (a0.o.below hb);have ew:=zh (a4.o.below hb);have ej:=zh (a3.o.below hb);have bh:=zh (eS.o.below hb);have aY:=zh (dS.o.below hb);have e3:=zh (e2.o.below hb);have d8:=zh (d7.o.below hb);have cS:=zh (cR.o.below hb);have dH:=zh (dG.o.below hb);clear hb al aL a9 cJ cu de b1 dz fj a0 a4 a3 eS dS e2 d7 cR dG;clear z13_0 z13_1 z13_2 z13_9;have bC:Bk gx bt 29 [.bool false,.slice (some ⟨bl,0,none⟩) 3 3,.slice (some ⟨bk,0,none⟩) 3 3]:=bh.o;have z14_0:=bC.c0;have z14_1:=bC.c1;have z14_2:=bC.c2;have z14_9:=bC.lt;clear bC
 go_wp2_with fail
 have kk:=PY gx pb cb bs (hE.o.below am.o) aM.o bb.o false _ _ 3 (1/2) (1/4) 1 [2,1,0] false rfl (by decide) (VJ a1.o) (Ku aY.o) (by decide +kernel) (iff_of_false (by decide) (VH (by decide +kernel)));refine kk.mono ?_;clear kk;rintro e gV ⟨rfl,hb⟩;have fM:=zh (am.o.trans (hb.mono am.o.size));have gF:=zh (aM.o.below hb);have gR:=zh (bb.o.below hb);have gH:=zh (cK.o.below hb (zA _));have gG:=zh (cv.o.below hb);have gJ:=zh (df.o.below hb);have gE:=zh (b2.o.below hb (zA _));have gK:=zh (dA.o.below hb);have gU:=zh (fm.o.below hb);have gN:=zh (a1.o.below hb);have gQ:=zh (ew.o.below hb);have gP:=zh (ej.o.below hb);have gS:=zh (bh.o.below hb);have gM:=zh (aY.o.below hb);have gT:=zh (e3.o.below hb);have gO:=zh (d8.o.below hb);have gI:=zh (cS.o.below hb);have gL:=zh (dH.o.below hb);clear hb am aM bb cK cv df b2 dA fm a1 ew ej bh aY e3 d8 cS dH;clear z14_0 z14_1 z14_2 z14_9
 go_wp2_with fail
 refine zf (v:=.bool true) (by simp[results,Tryz.results5,go_sem]) rfl ⟨rfl,fM.o⟩
end Bd
end
section
open Go.RowKit Go.Shelf
namespace Ci
open Nt
def EC(x:Lk):Prop:=x.2.2.2.1.size<=400/\x.2.2.2.2.size<=400
instance (x:Lk):Decidable (EC x):=inferInstanceAs (Decidable (_/\_))
def DZ(s:SR):Bool:=decide (s.ps.length<=70/\s.cap.length<=300/\s.vot.length<=300)&&(decide (∀i (h:i<s.ps.length),s.ps[i].size<=100)&&(decide (∀i (h:i<s.cap.length),EC s.cap[i])&&decide (∀i (h:i<s.vot.length),EC s.vot[i])))
theorem Gp{s:SR}(h:¬(s.ps.length<=70/\s.cap.length<=300/\s.vot.length<=300)):DZ s=false:=by unfold DZ;rw[zD h];rfl
theorem VK{s:SR}{k:Nat}(h:k<s.ps.length)(hb:¬s.ps[k].size<=100):DZ s=false:=by unfold DZ;rw[zD (p:=∀i (h:i<s.ps.length),s.ps[i].size<=100) fun c=>hb (c k h)];simp
theorem U7{s:SR}{k:Nat}(h:k<s.cap.length)(hb:¬EC s.cap[k]):DZ s=false:=by unfold DZ;rw[zD (p:=∀i (h:i<s.cap.length),EC s.cap[i]) fun c=>hb (c k h)];simp
theorem U8{s:SR}{k:Nat}(h:k<s.vot.length)(hb:¬EC s.vot[k]):DZ s=false:=by unfold DZ;rw[zD (p:=∀i (h:i<s.vot.length),EC s.vot[i]) fun c=>hb (c k h)];simp
theorem U9{s:SR}(h1:s.ps.length<=70)(h2:s.cap.length<=300)(h3:s.vot.length<=300)(h4:∀i (h:i<s.ps.length),s.ps[i].size<=100)(h5:∀i (h:i<s.cap.length),EC s.cap[i])(h6:∀i (h:i<s.vot.length),EC s.vot[i]):DZ s=true:=by
 unfold DZ;rw[zH ⟨h1,h2,h3⟩,zH h4,zH h5,zH h6];rfl
theorem Te(s:SR)(Ap Ac Av:Option Addr)(cp cc cv:Nat)(w:World)(hs:StIn w s Ap Ac Av):
 Calls Tryz.prog 22 #[.agg #[.slice Ap s.ps.length cp,.slice Ac s.cap.length cc,.slice Av s.vot.length cv]] w fun e w'=>e=.returned (.bool (DZ s))/\Below w.heap.size w w':=by
 have n1:=hs.np;have n2:=hs.nc;have n3:=hs.nv;have hB:Hid (Below w.heap.size w (w.alloc (.cells #[.slice Ap s.ps.length cp,.slice Ac s.cap.length cc,.slice Av s.vot.length cv] 25))):=(zI _ w).alloc (zA _) _;replace hs:=zh hs
 by_cases h1:s.ps.length<=70
 .by_cases h2 : s.cap.length<=300
  .by_cases h3:s.vot.length<=300
   .have ah:=zh (show s.ps.length<=70/\s.cap.length<=300/\s.vot.length<=300 from⟨h1,h2,h3⟩);have m1:decide (70<(s.ps.length:Int))=false:=zD (by omega);have m2:decide (300<(s.cap.length:Int))=false:=zD (by omega);have m3:decide (300<(s.vot.length:Int))=false:=zD (by omega);go_enter Tryz.func22,Tryz.ntmps22;go_wp2
    go_loop [3] (fun i=>∃k:Nat,k<=s.ps.length/\i=.int .i64 (k:Int)/\Hid (∀i (h:i<s.ps.length),i<k->s.ps[i].size<=100)) (fun i=>s.ps.length-(intOf i).toNat)
    case atStart=>exact⟨0,zP _,rfl,fun i _ h=>absurd h (yJ _)⟩
    case round=>
     obtain⟨k,hk,rfl,ag⟩:=hrel
     by_cases hlt:k<s.ps.length
     .obtain ⟨b,o,rfl,aa,hc⟩:=hs.o.ps (by omega);have e4:=hc k hlt;have z1:=hs.o.zp s.ps[k] (zN hlt)
      have d:Hid (s.ps[k].size<=100->∀i (h:i<s.ps.length),i<k+1->s.ps[i].size<=100):=fun h i h1 h2=>by
       by_cases e:i=k
       .subst e;exact h
       exact ag.o i h1 (by omega)
      have a:Hid (¬s.ps[k].size<=100->DZ s=false):=fun h=>VK hlt h;obtain⟨nm,hx⟩:∃x,x=s.ps[k]:=⟨_,rfl⟩;rw[<-hx]at e4 z1 d a;have y4:=(zi w (.cells #[.slice (some ⟨b,o,none⟩) s.ps.length cp,.slice Ac s.cap.length cc,.slice Av s.vot.length cv] 25) (⟨b,o+k,none⟩:Addr) aa).trans e4;have j0:(0:Int)<=(k:Int):=by omega
      have j1:(k:Int)<(s.ps.length:Int):=by omega
      clear hc hx e4
      by_cases n4:nm.size<=100
      .have m1:decide (100<(nm.size:Int))=false:=zD (by omega);have ad:=zh (d.o n4);go_wp2;go_round
       case rel=>exact⟨k+1,by omega,by go_num,ad⟩
       case measure=>simp[intOf];omega
      have m1:decide (100<(nm.size:Int))=true:=zH (by omega);have hG:=zh (a.o n4);go_wp2;go_ret;exact⟨Ak hG.o.symm,hB.o⟩
     obtain rfl:k=s.ps.length:=by omega
     go_wp2
     go_loop [4] (fun i=>∃k:Nat,k<=s.cap.length/\i=.int .i64 (k:Int)/\Hid (∀i (h:i<s.cap.length),i<k->EC s.cap[i])) (fun i=>s.cap.length-(intOf i).toNat)
     case atStart=>exact⟨0,zP _,rfl,fun i _ h=>absurd h (yJ _)⟩
     case round=>
      obtain⟨k,hk,rfl,ae⟩:=hrel
      by_cases hlt:k<s.cap.length
      .obtain ⟨b,o,rfl,aa,hc⟩:=hs.o.cap (by omega);obtain⟨_,_,_,e4,e5⟩:=hc k hlt;have hz:=hs.o.zc s.cap[k] (zN hlt)
       have d:Hid (EC s.cap[k]->∀i (h:i<s.cap.length),i<k+1->EC s.cap[i]):=fun h i h1 h2=>by
        by_cases e:i=k
        .subst e;exact h
        exact ae.o i h1 (by omega)
       have a:Hid (¬EC s.cap[k]->DZ s=false):=fun h=>U7 hlt h;obtain⟨x,hx⟩:∃x,x=s.cap[k]:=⟨_,rfl⟩;rw[<-hx]at e4 e5 hz d a;obtain⟨co,ho,g,nn,dd⟩:=x;obtain⟨z1,z2⟩:=hz;replace z1:nn.size<=140737488355328:=z1;replace z2:dd.size<=140737488355328:=z2;replace d:Hid (nn.size<=400/\dd.size<=400->∀i (h:i<s.cap.length),i<k+1->EC s.cap[i]):=d;replace a:Hid (¬(nn.size<=400/\dd.size<=400)->DZ s=false):=a;have y4:=(zi w (.cells #[.slice Ap s.ps.length cp,.slice (some ⟨b,o,none⟩) s.cap.length cc,.slice Av s.vot.length cv] 25) (⟨b,o+k*5+3,none⟩:Addr) aa).trans e4;have y5:=(zi w (.cells #[.slice Ap s.ps.length cp,.slice (some ⟨b,o,none⟩) s.cap.length cc,.slice Av s.vot.length cv] 25) (⟨b,o+k*5+4,none⟩:Addr) aa).trans e5;have j0:(0:Int)<=(k:Int):=by omega
       have j1:(k:Int)<(s.cap.length:Int):=by omega
       clear hc hx e4 e5
       by_cases n4:nn.size<=400
       .have m1:decide (400<(nn.size:Int))=false:=zD (by omega)
        by_cases n5:dd.size<=400
        .have m2:decide (400<(dd.size:Int))=false:=zD (by omega);have ad:=zh (d.o ⟨n4,n5⟩);go_wp2;go_round
         case rel=>exact⟨k+1,by omega,by go_num,ad⟩
         case measure=>simp[intOf];omega
        have m2:decide (400<(dd.size:Int))=true:=zH (by omega);have hG:=zh (a.o fun h=>n5 h.2);go_wp2;go_ret;exact⟨Ak hG.o.symm,hB.o⟩
       have m1:decide (400<(nn.size:Int))=true:=zH (by omega);have hG:=zh (a.o fun h=>n4 h.1);go_wp2;go_ret;exact⟨Ak hG.o.symm,hB.o⟩
      obtain rfl:k=s.cap.length:=by omega
      go_wp2
      go_loop [5] (fun i=>∃k:Nat,k<=s.vot.length/\i=.int .i64 (k:Int)/\Hid (∀i (h:i<s.vot.length),i<k->EC s.vot[i])) (fun i=>s.vot.length-(intOf i).toNat)
      case atStart=>exact⟨0,zP _,rfl,fun i _ h=>absurd h (yJ _)⟩
      case round=>
       obtain⟨k,hk,rfl,af⟩:=hrel
       by_cases hlt:k<s.vot.length
       .obtain ⟨b,o,rfl,aa,hc⟩:=hs.o.vot (by omega);obtain⟨_,_,_,e4,e5⟩:=hc k hlt;have hz:=hs.o.zv s.vot[k] (zN hlt)
        have d:Hid (EC s.vot[k]->∀i (h:i<s.vot.length),i<k+1->EC s.vot[i]):=fun h i h1 h2=>by
         by_cases e:i=k
         .subst e;exact h
         exact af.o i h1 (by omega)
        have a:Hid (¬EC s.vot[k]->DZ s=false):=fun h=>U8 hlt h;obtain⟨x,hx⟩:∃x,x=s.vot[k]:=⟨_,rfl⟩;rw[<-hx]at e4 e5 hz d a;obtain⟨co,ho,g,nn,dd⟩:=x;obtain⟨z1,z2⟩:=hz;replace z1:nn.size<=140737488355328:=z1;replace z2:dd.size<=140737488355328:=z2;replace d:Hid (nn.size<=400/\dd.size<=400->∀i (h:i<s.vot.length),i<k+1->EC s.vot[i]):=d;replace a:Hid (¬(nn.size<=400/\dd.size<=400)->DZ s=false):=a;have y4:=(zi w (.cells #[.slice Ap s.ps.length cp,.slice Ac s.cap.length cc,.slice (some ⟨b,o,none⟩) s.vot.length cv] 25) (⟨b,o+k*5+3,none⟩:Addr) aa).trans e4;have y5:=(zi w (.cells #[.slice Ap s.ps.length cp,.slice Ac s.cap.length cc,.slice (some ⟨b,o,none⟩) s.vot.length cv] 25) (⟨b,o+k*5+4,none⟩:Addr) aa).trans e5;have j0:(0:Int)<=(k:Int):=by omega
        have j1:(k:Int)<(s.vot.length:Int):=by omega
        clear hc hx e4 e5
        by_cases n4:nn.size<=400
        .have m1:decide (400<(nn.size:Int))=false:=zD (by omega)
         by_cases n5:dd.size<=400
         .have m2:decide (400<(dd.size:Int))=false:=zD (by omega);have ad:=zh (d.o ⟨n4,n5⟩);go_wp2;go_round
          case rel=>exact⟨k+1,by omega,by go_num,ad⟩
          case measure=>simp[intOf];omega
         have m2:decide (400<(dd.size:Int))=true:=zH (by omega);have hG:=zh (a.o fun h=>n5 h.2);go_wp2;go_ret;exact⟨Ak hG.o.symm,hB.o⟩
        have m1:decide (400<(nn.size:Int))=true:=zH (by omega);have hG:=zh (a.o fun h=>n4 h.1);go_wp2;go_ret;exact⟨Ak hG.o.symm,hB.o⟩
       obtain rfl:k=s.vot.length:=by omega
       have hG:=zh (U9 (s:=s) ah.o.1 ah.o.2.1 ah.o.2.2 (fun i h=>ag.o i h h) (fun i h=>ae.o i h h) (fun i h=>af.o i h h));go_wp2;go_ret;exact⟨Ak hG.o.symm,hB.o⟩
   have hG:=zh (Gp (s:=s) fun h=>h3 h.2.2);go_enter Tryz.func22,Tryz.ntmps22;go_wp2;go_ret;exact⟨Ak hG.o.symm,hB.o⟩
  have hG:=zh (Gp (s:=s) fun h=>h2 h.2.1);go_enter Tryz.func22,Tryz.ntmps22;go_wp2;go_ret;exact⟨Ak hG.o.symm,hB.o⟩
 have hG:=zh (Gp (s:=s) fun h=>h1 h.1);go_enter Tryz.func22,Tryz.ntmps22;go_wp2;go_ret;exact⟨Ak hG.o.symm,hB.o⟩
end Ci
end
end Go.Proofs.YtmfjbpcecpgchaaGreatDoor

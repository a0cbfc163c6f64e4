/- Parts of the proof. -/
import Derived.Test.YtefmpngjjmddjaaGreatDoorKhH
set_option maxHeartbeats 32000000
set_option maxRecDepth 100000
open Go.Proofs.Tryz
namespace Go.Proofs.YtefmpngjjmddjaaGreatDoor
section
open Go.RowKit Go.Shelf
namespace Rg
open Nt Ci
def UC(l:List Hd)(day:Int)(w:World)(e:Ending)(w':World):Prop :=
 (Valid l/\D7 day->∃s Ap Ac Av cp cc cv,e=.returned (.tuple #[.agg #[.slice Ap (List.length s.ps) cp,.slice Ac (List.length s.cap) cc,.slice Av (List.length s.vot) cv],.int .i64 0])/\AtS l day s/\StIn w' s Ap Ac Av/\s.cap.length<=5*l.length/\s.vot.length<=5*l.length/\Fr w.heap.size Ap/\Fr w.heap.size Ac/\Fr w.heap.size Av) /\
 (¬(Valid l/\D7 day)->e=.returned (.tuple #[.agg #[.slice none 0 0,.slice none 0 0,.slice none 0 0],.int .i64 1]))/\Below w.heap.size w w'
theorem O3{tb:Nat}{u1 u2 u3:Value}{W:World}(hb:Bk W tb 32 [u1,u2,u3]){tmps:Array Value}(h4:tmps.getD 4 undef=.pointer (some ⟨tb,0,none⟩)){e:Int}(h5:tmps.getD 5 undef=.int .i64 e):
 (results Tryz.f9 tmps).run prog W=.ok (.tuple #[.agg #[u1,u2,u3],.int .i64 e]) W:=by
 have c0:=hb.c0;have c1:=hb.c1;have c2:=hb.c2;have c9:=hb.lt;rw[results_cell_tmp rfl,h4,h5];go_simp
theorem O4{W:World}{tb:Nat}{u1 u2 u3:Value}(h:Bk W tb 32 [u1,u2,u3])(v1 v2 v3:Value):Bk (((W.setCell ⟨tb,0,none⟩ v1).setCell ⟨tb,1,none⟩ v2).setCell ⟨tb,2,none⟩ v3) tb 32 [v1,v2,v3]:=((h.set 0 v1).set 1 v2).set 2 v3
theorem Ja{w W:World}{n tb:Nat}(h:Below n w W)(hn:n<=tb)(v1 v2 v3:Value):Below n w (((W.setCell ⟨tb,0,none⟩ v1).setCell ⟨tb,1,none⟩ v2).setCell ⟨tb,2,none⟩ v3):=((h.setCell (p:=⟨tb,0,none⟩) hn v1).setCell (p:=⟨tb,1,none⟩) hn v2).setCell (p:=⟨tb,2,none⟩) hn v3
theorem UD(l:List Hd)(A0:Option Addr)(cap:Nat)(day:Int)(w:World)(hE:Env w)(hl:InHd w A0 l)(hz:∀h∈l,HdSz h)(bI:l.length<=1000000):
 Calls prog 9 #[.slice A0 l.length cap,.int .i64 day] w (UC l day w):=by
 have bq:=@run_makeMap prog;have bg:Hid (Bk (w.alloc (.cells #[.slice none 0 0,.slice none 0 0,.slice none 0 0] 32)) w.heap.size 32 [.slice none 0 0,.slice none 0 0,.slice none 0 0]):=Bk.new w _ _;have aD:Hid (Below w.heap.size w (w.alloc (.cells #[.slice none 0 0,.slice none 0 0,.slice none 0 0] 32))):=(zI _ w).alloc (zB _) _;have kv:=zh (Kn l A0 cap (w.alloc (.cells #[.slice none 0 0,.slice none 0 0,.slice none 0 0] 32)) (hl.below aD.o) hz bI);have av:Hid (∀e w',¬(Valid l/\D7 day)->e=.returned (.tuple #[.agg #[.slice none 0 0,.slice none 0 0,.slice none 0 0],.int .i64 1])->Below w.heap.size w w'->UC l day w e w'):=fun e w' h1 h2 h3=>⟨fun h=>absurd h h1,fun _=>h2,h3⟩;replace hE:=zh hE;replace hl:=zh hl;replace hz:=zh hz;go_enter func9,ntmps9
 go_wp2_with fail
 refine kv.o.mono ?_;rintro e w1 ⟨r,rfl,hV,aW⟩;have ao:Hid (Below w.heap.size w w1):=aD.o.trans (aW.mono aD.o.size);have ad:Hid (Bk w1 w.heap.size 32 [.slice none 0 0,.slice none 0 0,.slice none 0 0]):=bg.o.below aW;clear kv aW aD bg
 cases r with
 |false=>
  have hN:Hid (¬(Valid l/\D7 day)):=fun h=>Bool.false_ne_true (hV.2 h.1);have r0:=ad.o.c0;have r1:=ad.o.c1;have r2:=ad.o.c2;have r3:=ad.o.frozen 0;have r4:=ad.o.frozen 1;have r5:=ad.o.frozen 2;have r9:=ad.o.lt;clear bq hV;go_wp2;refine zo (O3 (O4 ad.o _ _ _) rfl rfl) rfl ?_;exact av.o _ _ hN.o rfl (Ja ao.o (zB _) _ _ _)
 |true=>
  obtain⟨dd,aq⟩:∃q,q=decide (D7 day):=⟨_,rfl⟩;have kd:=zh (G2 day w1);rw[<-aq]at kd;have aB:Hid (Valid l):=hV.1 rfl;clear hV;replace aq:=zh aq
  go_wp2_with fail
  refine kd.o.mono ?_;rintro e w1b ⟨rfl,rfl⟩;clear kd
  cases dd with
  |false=>
   have hN:Hid (¬(Valid l/\D7 day)):=fun h=>yA aq.o.symm h.2;have r0:=ad.o.c0;have r1:=ad.o.c1;have r2:=ad.o.c2;have r3:=ad.o.frozen 0;have r4:=ad.o.frozen 1;have r5:=ad.o.frozen 2;have r9:=ad.o.lt;clear bq;go_wp2;refine zo (O3 (O4 ad.o _ _ _) rfl rfl) rfl ?_;exact av.o _ _ hN.o rfl (Ja ao.o (zB _) _ _ _)
  |true=>
   have bD:Hid (D7 day):=zh (zL aq.o.symm);clear aq av;have an:Hid (∀h∈l,Proper h):=fun h hh=>Lm aB.o hh;have aZ:∀h∈l,h.jo.length<=4:=fun h hh=>(an.o h hh).1.2.2.2.2.2.1;have kp:=zh (Hx l A0 cap w1b (hl.o.below ao.o) hz.o aZ (by omega) (by have:=Pt aZ;have:=aB.o.2.1;omega));clear aZ
   go_wp2_with fail
   refine kp.o.mono ?_;rintro e w2 ⟨ps,A,c,rfl,hP,hS,aX,bF⟩;have bw:Hid (Below w.heap.size w w2):=ao.o.trans (aX.mono ao.o.size);have bN:ps.length<=60:=aB.o.2.2.1 ps hP;have ba:=zh (AtI.start (c:=c) bw.o (ad.o.below aX) hS hP.1 (by omega));have a7:=ao.o.size;clear kp ad ao aX;replace hP:=zh hP;replace hS:=zh hS;go_wp2
   go_loopw [32] (fun i wr=>∃k:Nat,k<=l.length/\i=.int .i64 (k:Int)/\Hid (AtI w ps A c w2.heap.size ((l.take k).flatMap (addC day)) ((l.take k).flatMap (addV day)) wr)) (fun i _=>l.length-(intOf i).toNat)
   case atStart=>exact⟨0,zS _,rfl,ba⟩
   case round=>
    obtain⟨k,hk,rfl,hI⟩:=hrel;clear ba;obtain⟨wz,rfl⟩:∃z,z=wr:=⟨_,rfl⟩;obtain⟨DC,ai⟩:∃D,D=(l.take k).flatMap (addC day):=⟨_,rfl⟩;obtain⟨DV,aj⟩:∃D,D=(l.take k).flatMap (addV day):=⟨_,rfl⟩;have bQ:=aB.o.2.1;have al:Hid (Mod DC/\DC.length<=1000000):=⟨by rw[ai];exact MI fun x hx=>UA (an.o x (yE hx)) day,by have:=Ie (l:=l.take k) fun x hx=>MG (an.o x (yE hx)) day;rw[<-ai,xI]at this;omega⟩;have am:Hid (Mod DV/\DV.length<=1000000):=⟨by rw[aj];exact MI fun x hx=>UB (an.o x (yE hx)) day,by have:=Ie (l:=l.take k) fun x hx=>MH (an.o x (yE hx)) day;rw[<-aj,xI]at this;omega⟩;rw[<-ai,<-aj]at hI
    by_cases hlt:k<l.length
    .obtain ⟨b,off,rfl,ag,bm⟩:=hl.o (by omega);obtain⟨Aj,cj,hj,hc⟩:=bm k hlt;clear bm;have hB:=zh hI.o.b;have a6:=hz.o l[k] (zO hlt);have ah:=an.o l[k] (zO hlt);have ae:=fun y (hy:y∈nms l[k])=>Rp hP.o (zO hlt) hy;have ar:=Fv (addC day) hlt;have au:=Fv (addV day) hlt;rw[<-ai]at ar;rw[<-aj]at au;have k0:(0:Int)<=(k:Int):=by omega
     have k1:(k:Int)<(l.length:Int):=by omega
     generalize l[k]=h at hc hj a6 ah ae ar au;have aG:0<ps.length:=wK (ae h.co (by simp[nms]));have e0:=(hB.o.cell (p:=⟨b,_,none⟩) ag).trans (hc 0 _ rfl);have e1:=(hB.o.cell (p:=⟨b,_,none⟩) ag).trans (hc 1 _ rfl);have e2:=(hB.o.cell (p:=⟨b,_,none⟩) ag).trans (hc 2 _ rfl);have e3:=(hB.o.cell (p:=⟨b,_,none⟩) ag).trans (hc 3 _ rfl);have e4:=(hB.o.cell (p:=⟨b,_,none⟩) ag).trans (hc 4 _ rfl);have e5:=(hB.o.cell (p:=⟨b,_,none⟩) ag).trans (hc 5 _ rfl);have e6:=(hB.o.cell (p:=⟨b,_,none⟩) ag).trans (hc 6 _ rfl);have e7:=(hB.o.cell (p:=⟨b,_,none⟩) ag).trans (hc 7 _ rfl);have e8:=(hB.o.cell (p:=⟨b,_,none⟩) ag).trans (hc 8 _ rfl);have e9:=(hB.o.cell (p:=⟨b,_,none⟩) ag).trans (hc 9 _ rfl);simp only[xM]at e0;have bu:=zh a6;obtain⟨z0,z1,z2,z3,z4,z5,z6,z7,z8,z9,zt⟩:=a6;have bb:=zh (hI.o.below ((zI _ wz).alloc (zB _) (.cells #[.string h.id,.string h.co,.string h.ho,.string h.no,.string h.pl,.slice Aj h.jo.length cj,.int .i64 h.ca,.int .i64 h.vo,.int .i64 h.fr,.int .i64 h.tt] 29)));have a1:Hid (Bk (wz.alloc (.cells #[.string h.id,.string h.co,.string h.ho,.string h.no,.string h.pl,.slice Aj h.jo.length cj,.int .i64 h.ca,.int .i64 h.vo,.int .i64 h.fr,.int .i64 h.tt] 29)) wz.heap.size 29 [.string h.id,.string h.co,.string h.ho,.string h.no,.string h.pl,.slice Aj h.jo.length cj,.int .i64 h.ca,.int .i64 h.vo,.int .i64 h.fr,.int .i64 h.tt]):=Bk.new _ _ _;have kr:=zh (Uq h bu.o Aj cj day (wz.alloc (.cells #[.string h.id,.string h.co,.string h.ho,.string h.no,.string h.pl,.slice Aj h.jo.length cj,.int .i64 h.ca,.int .i64 h.vo,.int .i64 h.fr,.int .i64 h.tt] 29)));obtain⟨d,hd⟩:∃x,x=decide (BC h day):=⟨_,rfl⟩;rw[<-hd]at kr;have xl:=a1.o.lt;have bK:w2.heap.size+3<wz.heap.size:=hI.o.pl.ol;replace hd:=zh hd;replace ar:=zh ar;replace au:=zh au;replace ah:=zh ah;replace ae:=zh ae;replace hc:=zh hc;replace hj:=zh hj;replace ai:=zh ai;replace aj:=zh aj
     go_wp2_with fail
     refine kr.o.q fun w3 ap=>?_;have af:=zh (bb.o.below ap);have aI:=zh (a1.o.below ap);have bJ:w2.heap.size+3<w3.heap.size:=af.o.pl.ol;clear xl e0 e1 e2 e3 e4 e5 e6 e7 e8 e9 kr bb a1 ap
     cases d with
     |false=>
      have hN:Hid (AtI w ps A c w2.heap.size ((l.take (k+1)).flatMap (addC day)) ((l.take (k+1)).flatMap (addV day)) w3):=by
       rw[ar.o,au.o,show addC day h=[] from zE (yA hd.o.symm),show addV day h=[] from zE (yA hd.o.symm),xV,xV];exact af
      go_wp2;exact⟨⟨k+1,by omega,by go_num,hN⟩,by simp only[intOf];omega⟩
     |true=>
      have aP:Hid (addC day h=Lb (Cv h) h.co h.ca/\addV day h=Lb (E8 h) h.co h.vo):=⟨zF (zL hd.o.symm),zF (zL hd.o.symm)⟩;have bH:h.jo.length<=1000000:=by have:=ah.o.1.2.2.2.2.2.1;omega
      have ak:Hid (Below w3.heap.size w3 (w3.alloc (.cells #[.string h.ho] 9))):=(zI _ w3).alloc (zB _) _;have bt:=zh (aI.o.below ak.o);obtain⟨g,cp,w6,bP,a0,aU,bo⟩:=Ps (w3.alloc (.cells #[.string h.ho] 9)) w3.heap.size [h.ho] Aj cj h.jo 1 rfl (by decide) (Bk.new w3 9 [.string h.ho]) (hj.o.below (af.o.b.trans (ak.o.mono af.o.b.size))) bH;have aK:Hid (Below w3.heap.size w3 w6):=ak.o.grown bo ak.o.size fun b e=>by cases e;exact zB _
      have bd:=zh (af.o.below aK.o);have a3:=zh (aI.o.below aK.o);have bS:w2.heap.size+3<w6.heap.size:=bd.o.pl.ol;clear bo ak;replace a0:=zh a0;replace aU:=zh aU;obtain⟨bn,bj⟩:∃q,h.no.toList.isEmpty=q:=⟨_,rfl⟩;obtain⟨bp,bk⟩:∃q,h.pl.toList.isEmpty=q:=⟨_,rfl⟩;have a2:=aI.o.c2;have a5:=bt.o.c5;have a9:=aI.o.lt;have a8:=bt.o.lt
      go_upto_if 48 with(at_builtin;refine IV _ rfl _ _ 23 rfl rfl rfl rfl a0.o ?_;clear a2 a5 a9 a8;have b3:=a3.o.c3;have b9:=a3.o.lt)
      go_cut [13] (fun v wx=>∃Aw n cw,v=.slice Aw n cw/\n=(Cv h).length/\Hid (InStr wx Aw (Cv h))/\(∀b off,Aw=some ⟨b,off,none⟩->w2.heap.size+3<b)/\Hid (Below w6.heap.size w6 wx))
      case first=>
       cases bn with
       |true=>
        have cn:h.no=⟨#[]⟩:=Decidable.byContradiction fun q=>Bool.false_ne_true ((GY q).symm.trans bj);have hw:Hid (Cv h=h.ho::h.jo):=zF (by rw[cn];rfl);replace cn:=zh cn
        go_wp2_with fail
        go_meet
        exact⟨_,_,_,rfl,by rw[hw.o,zZ,Nat.add_comm],by rw[hw.o];exact aU,fun b off e=>by injection e with e;injection e with e;omega,zI _ _⟩
       |false=>
        have cn:h.no≠⟨#[]⟩:=fun q=>Bool.false_ne_true (bj.symm.trans (by rw[q,ya];rfl));have hw:Hid (Cv h=[h.no]):=zE fun q=>cn (Dn.2 q);have bA:Hid (InStr (w6.alloc (.cells #[.string h.no] 9)) (some ⟨w6.heap.size,0,none⟩) [h.no]):=XF (Bk.new w6 9 [.string h.no]);have bx:Hid (Below w6.heap.size w6 (w6.alloc (.cells #[.string h.no] 9))):=(zI _ w6).alloc (zB _) _;replace cn:=zh cn
        go_wp2_with fail
        go_meet
        exact⟨_,_,_,rfl,by rw[hw.o];rfl,by rw[hw.o];exact bA,fun b off e=>by injection e with e;injection e with e;omega,bx⟩
      case rest=>
       obtain⟨Aw,n,cw,rfl,rfl,aV,aS,aL⟩:=hcut;have aw:=zh (bd.o.below aL.o);have aC:=zh (a3.o.below aL.o);have kS:=zh (Kr ps A c w2.heap.size (w2.heap.size+3) (w2.heap.size+1) DC (Cv h) Aw cw h.co h.ca wc aw.o.pl aV.o aw.o.mc al.o.1 al.o.2 (by have:=IZ ah.o;omega) ah.o.2.2.2.2.1 (ae.o _ (by simp[nms])) (fun x hx=>ae.o x (MC ah.o hx)) (by omega) (by omega) (fun b off e q=>by have:=(aw.o.a aG b off e).1;omega) (fun b off e q=>by have:=aS b off e;omega));have b1:=aC.o.c1;have b6:=aC.o.c6;have b9:=aC.o.lt
       go_wp2_with fail
       refine kS.o.q fun w8 ⟨bf,aE⟩=>?_;have be:=zh (aw.o.cap aG aE bf);have a4:=zh (aC.o.grown aE (by intro e;injection e with e;omega));have bB:Hid (InStr w8 Aw (Cv h)):=InStr.grown aV.o aE fun b off e q=>by injection q with q;have:=aS b off e;omega
       have bT:w2.heap.size+3<w8.heap.size:=be.o.pl.ol;clear kS b1 b6 b9 bf aE aw aC aV;have b4:=a4.o.c4;have b9:=a4.o.lt
       go_upto_if 62 with fail
       go_cut [13] (fun v wx=>∃Aw n cw,v=.slice Aw n cw/\n=(E8 h).length/\Hid (InStr wx Aw (E8 h))/\(∀b off,Aw=some ⟨b,off,none⟩->w2.heap.size+3<b)/\Hid (Below w8.heap.size w8 wx))
       case first=>
        cases bp with
        |true=>
         have cn:h.pl=⟨#[]⟩:=Decidable.byContradiction fun q=>Bool.false_ne_true ((GY q).symm.trans bk);have hw:Hid (E8 h=Cv h):=zF (by rw[cn];rfl);replace cn:=zh cn
         go_wp2_with fail
         go_meet
         exact⟨_,_,_,rfl,by rw[hw.o],by rw[hw.o];exact bB,aS,zI _ _⟩
        |false=>
         have cn:h.pl≠⟨#[]⟩:=fun q=>Bool.false_ne_true (bk.symm.trans (by rw[q,ya];rfl));have hw:Hid (E8 h=[h.pl]):=zE fun q=>cn (Dn.2 q);have bC:Hid (InStr (w8.alloc (.cells #[.string h.pl] 9)) (some ⟨w8.heap.size,0,none⟩) [h.pl]):=XF (Bk.new w8 9 [.string h.pl]);have bz:Hid (Below w8.heap.size w8 (w8.alloc (.cells #[.string h.pl] 9))):=(zI _ w8).alloc (zB _) _;replace cn:=zh cn
         go_wp2_with fail
         go_meet
         exact⟨_,_,_,rfl,by rw[hw.o];rfl,by rw[hw.o];exact bC,fun b off e=>by injection e with e;injection e with e;omega,bz⟩
       case rest=>
        obtain⟨Ay,n,cy,rfl,rfl,bh,bv,aM⟩:=hcut;have ax:=zh (be.o.below aM.o);have aJ:=zh (a4.o.below aM.o);clear b4 b9;have kS:=zh (Kr ps A c w2.heap.size (w2.heap.size+3) (w2.heap.size+2) DV (E8 h) Ay cy h.co h.vo wc ax.o.pl bh.o ax.o.mv am.o.1 am.o.2 (by have:=MD ah.o;omega) ah.o.2.2.2.2.2.1 (ae.o _ (by simp[nms])) (fun x hx=>ae.o x (U9 ah.o hx)) (by omega) (by omega) (fun b off e q=>by have:=(ax.o.a aG b off e).1;omega) (fun b off e q=>by have:=bv b off e;omega));have b1:=aJ.o.c1;have b7:=aJ.o.c7;have b9:=aJ.o.lt
        go_wp2_with fail
        refine kS.o.q fun bL ⟨aN,aO⟩=>?_
        have bc:Hid (AtI w ps A c w2.heap.size ((l.take (k+1)).flatMap (addC day)) ((l.take (k+1)).flatMap (addV day)) bL):=by
         rw[ar.o,au.o,aP.o.1,aP.o.2];exact ax.o.vot aG aO aN
        clear kS b1 b7 b9 aN aO ax aJ bh;go_wp2;exact⟨⟨k+1,by omega,by go_num,bc⟩,by simp only[intOf];omega⟩
    obtain rfl:k=l.length:=by omega
    rw[zu]at ai aj;have kc:=zh (Ks ps DC (w2.heap.size+1) wz (hE.o.below hI.o.b) hI.o.mc al.o.1 al.o.2 (by omega))
    go_wp2_with fail
    refine kc.o.mono ?_;rintro e w3 ⟨⟨Ac,cc,lc,rfl,az,ay,bO,aQ⟩,ap⟩;have af:=zh (hI.o.below ap);have kv:=zh (Ks ps DV (w2.heap.size+2) w3 (hE.o.below af.o.b) af.o.mv am.o.1 am.o.2 (by omega));have bK:w2.heap.size+3<wz.heap.size:=hI.o.pl.ol;have bJ:w2.heap.size+3<w3.heap.size:=af.o.pl.ol;clear kc ap;replace az:=zh az;replace ay:=zh ay
    go_wp2_with fail
    refine kv.o.mono ?_;rintro e w4 ⟨⟨Av,cv,lv,rfl,aA,aT,bR,aR⟩,aY⟩;have aa:=zh (af.o.below aY);replace ay:Hid (InLk w4 Ac lc):=ay.o.below aY;clear kv aY;replace aA:=zh aA;replace aT:=zh aT;have bs:=aa.o.s;have s0:=aa.o.x.c0;have s1:=aa.o.x.c1;have s2:=aa.o.x.c2;have s3:=aa.o.x.frozen 0;have s4:=aa.o.x.frozen 1;have s5:=aa.o.x.frozen 2;have s9:=aa.o.x.lt;have r0:=aa.o.r.c0;have r1:=aa.o.r.c1;have r2:=aa.o.r.c2;have r3:=aa.o.r.frozen 0;have r4:=aa.o.r.frozen 1;have r5:=aa.o.r.frozen 2;have r9:=aa.o.r.lt;have br:¬w.heap.size=w2.heap.size:=by omega
    have bM:¬w2.heap.size=w.heap.size:=by omega
    go_wp2;clear s0 s1 s2 s3 s4 s5 s9 r0 r1 r2 r3 r4 r5 r9;refine zo (O3 (O4 ((aa.o.r.far (p:=⟨w2.heap.size,1,none⟩) br _).far (p:=⟨w2.heap.size,2,none⟩) br _) _ _ _) rfl rfl) rfl ?_;have bi:=Ja ((aa.o.b.setCell (p:=⟨w2.heap.size,1,none⟩) (xF bs) (.slice Ac lc.length cc)).setCell (p:=⟨w2.heap.size,2,none⟩) (xF bs) (.slice Av lv.length cv)) (zB _) (.slice A ps.length c) (.slice Ac lc.length cc) (.slice Av lv.length cv)
    have aF:∀k,k≠w2.heap.size->k≠w.heap.size->(((((w4.setCell ⟨w2.heap.size,1,none⟩ (.slice Ac lc.length cc)).setCell ⟨w2.heap.size,2,none⟩ (.slice Av lv.length cv)).setCell ⟨w.heap.size,0,none⟩ (.slice A ps.length c)).setCell ⟨w.heap.size,1,none⟩ (.slice Ac lc.length cc)).setCell ⟨w.heap.size,2,none⟩ (.slice Av lv.length cv)).heap[k]? = w4.heap[k]?:=fun k h1 h2=>
     ((((zg _ ⟨w.heap.size,2,none⟩ _ k h2).trans (zg _ ⟨w.heap.size,1,none⟩ _ k h2)).trans (zg _ ⟨w.heap.size,0,none⟩ _ k h2)).trans (zg _ ⟨w2.heap.size,2,none⟩ _ k h1)).trans (zg _ ⟨w2.heap.size,1,none⟩ _ k h1)
    have aH:w4.heap.size<=(((((w4.setCell ⟨w2.heap.size,1,none⟩ (.slice Ac lc.length cc)).setCell ⟨w2.heap.size,2,none⟩ (.slice Av lv.length cv)).setCell ⟨w.heap.size,0,none⟩ (.slice A ps.length c)).setCell ⟨w.heap.size,1,none⟩ (.slice Ac lc.length cc)).setCell ⟨w.heap.size,2,none⟩ (.slice Av lv.length cv)).heap.size:=by simp
    generalize (((((w4.setCell ⟨w2.heap.size,1,none⟩ (.slice Ac lc.length cc)).setCell ⟨w2.heap.size,2,none⟩ (.slice Av lv.length cv)).setCell ⟨w.heap.size,0,none⟩ (.slice A ps.length c)).setCell ⟨w.heap.size,1,none⟩ (.slice Ac lc.length cc)).setCell ⟨w.heap.size,2,none⟩ (.slice Av lv.length cv))=w5 at bi aF aH ⊢;have bE:=Ie (l:=l) fun x hx=>MG (an.o x hx) day;have bG:=Ie (l:=l) fun x hx=>MH (an.o x hx) day;rw[<-ai]at bE;rw[<-aj]at bG;have q1:InStr w5 A ps:=InStr.same aa.o.pl.r aH fun h0 b off e _=>aF b (by have:=(aa.o.a h0 b off e).1;omega) (aa.o.a h0 b off e).2;have q2:InLk w5 Ac lc:=InLk.same ay.o aH fun b off e _=>aF b (by have:=aQ b off e;omega) (by have:=aQ b off e;omega);have q3:InLk w5 Av lv:=InLk.same aT.o aH fun b off e _=>aF b (by have:=aR b off e;omega) (by have:=aR b off e;omega);refine⟨fun _=>⟨⟨ps,lc,lv⟩,A,Ac,Av,c,cc,cv,rfl,⟨hP.o,by rw[<-ai];exact az.o,by rw[<-aj];exact aA.o⟩,⟨q1,q2,q3,(show ps.length<=_ by omega),(show lc.length<=_ by omega),(show lv.length<=_ by omega),fun x hx=>?_,fun x hx=>(az.o.sz al.o.1 al.o.2 (by omega) hx).1,fun x hx=>(aA.o.sz am.o.1 am.o.2 (by omega) hx).1,fun x hx=>(az.o.sz al.o.1 al.o.2 (by omega) hx).2,fun x hx=>(aA.o.sz am.o.1 am.o.2 (by omega) hx).2⟩,(show lc.length<=_ by omega),(show lv.length<=_ by omega),fun b off e=>zQ a7 (bF b off e),fun b off e=>by have:=aQ b off e;omega,fun b off e=>by have:=aR b off e;omega⟩,fun n=>absurd ⟨aB.o,bD.o⟩ n,bi⟩;obtain⟨h,hh,hx⟩:=List.mem_flatMap.1 ((hP.o.2 x).1 hx);exact XG (hz.o h hh) hx
theorem YC(l:List ByteArray)(A:Option Addr)(c:Nat)(s:ByteArray)(w:World)(hl:InStr w A l)(ah:l.length<=140737488355328):
 Calls prog 32 #[.slice A l.length c,.string s] w fun e w'=>e=.returned (.bool (decide (s∈l)))/\w'=w:=by
 have ae:Hid (∀k (h:k<l.length),l[k]=s->decide (s∈l)=true):=fun k h e=>zG (e▸zO h);have ad:Hid ((∀k (h:k<l.length),l[k]≠s)->decide (s∈l)=false):=fun q=>zH fun m=>by obtain⟨i,hi,e⟩:=zi m;exact q i hi e
 generalize decide (s∈l)=R at ae ad;replace hl:=zh hl;go_enter func32,ntmps32;go_wp2
 go_loop [5] (fun i=>∃k:Nat,k<=l.length/\i=.int .i64 (k:Int)/\Hid (∀j (h:j<l.length),j<k->l[j]≠s)) (fun i=>l.length-(intOf i).toNat)
 case atStart=>exact⟨0,zS _,rfl,fun j _ h=>absurd h (yB _)⟩
 case round=>
  obtain⟨k,hk,rfl,hI⟩:=hrel
  by_cases hlt:k<l.length
  .obtain ⟨b,off,rfl,ag,af⟩:=hl.o (by omega);have e0:=af k hlt;have d:=ae.o k hlt
   have aa:Hid (l[k]≠s->∀j (h:j<l.length),j<k+1->l[j]≠s):=fun h j hj h2=>by
    by_cases e:j=k
    .subst e;exact h
    exact hI.o j hj (by omega)
   have k0:(0:Int)<=(k:Int):=by omega
   have k1:(k:Int)<(l.length:Int):=by omega
   clear af;generalize l[k]=x at e0 d aa
   by_cases c:x=s
   .have hQ:=zh (d c);have m1:(x.toList==s.toList)=true:=(@BB x s).trans (zG c);replace c:=zh c;replace d:=zh d;go_wp2;go_ret;exact⟨Ad hQ.o.symm,rfl⟩
   have m1:(x.toList==s.toList)=false:=(@BB x s).trans (zH c);have hN:=zh (aa.o c);replace c:=zh c;replace d:=zh d;go_wp2;exact⟨⟨k+1,by omega,by go_num,hN⟩,by simp only[intOf];omega⟩
  obtain rfl:k=l.length:=by omega
  have hQ:=zh (ad.o fun j h=>hI.o j h h);go_wp2;go_ret;exact⟨Ad hQ.o.symm,rfl⟩
def Y6(l:List ByteArray)(s:ByteArray)(i:Int):Prop:=(i=-1/\s∉l)\/∃(k:Nat)(h:k<l.length),i=k/\l[k]=s/\∀j (hj:j<l.length),j<k->l[j]≠s
def Ln(l:List ByteArray)(s:ByteArray)(w:World)(e:Ending)(w':World):Prop:=∃i,e=.returned (.int .i64 i)/\Y6 l s i/\w'=w
theorem Jb(l:List ByteArray)(A:Option Addr)(c:Nat)(s:ByteArray)(w:World)(hl:InStr w A l)(ah:l.length<=140737488355328):
 Calls prog 93 #[.slice A l.length c,.string s] w (Ln l s w):=by
 have af:Hid (∀k (h:k<l.length),l[k]=s->(∀j (hj:j<l.length),j<k->l[j]≠s)->∀e,e=.returned (.int .i64 (k:Int))->Ln l s w e w):=fun k h e q x hx=>⟨k,hx,.inr ⟨k,h,rfl,e,q⟩,rfl⟩;have ae:Hid ((∀k (h:k<l.length),l[k]≠s)->∀e,e=.returned (.int .i64 (-1))->Ln l s w e w):=fun q x hx=>⟨-1,hx,.inl ⟨rfl,fun m=>by obtain⟨i,hi,e⟩:=zi m;exact q i hi e⟩,rfl⟩;replace hl:=zh hl;go_enter func93,ntmps93;go_wp2
 go_loop [8] (fun i=>∃k:Nat,k<=l.length/\i=.int .i64 (k:Int)/\Hid (∀j (h:j<l.length),j<k->l[j]≠s)) (fun i=>l.length-(intOf i).toNat)
 case atStart=>exact⟨0,zS _,rfl,fun j _ h=>absurd h (yB _)⟩
 case round=>
  obtain⟨k,hk,rfl,hI⟩:=hrel
  by_cases hlt:k<l.length
  .obtain ⟨b,off,rfl,ag,ad⟩:=hl.o (by omega);have e0:=ad k hlt;have d:=af.o k hlt
   have aa:Hid (l[k]≠s->∀j (h:j<l.length),j<k+1->l[j]≠s):=fun h j hj h2=>by
    by_cases e:j=k
    .subst e;exact h
    exact hI.o j hj (by omega)
   have k0:(0:Int)<=(k:Int):=by omega
   have k1:(k:Int)<(l.length:Int):=by omega
   clear ad;generalize l[k]=x at e0 d aa
   by_cases c:x=s
   .have hQ:=zh (d c hI.o);have m1:(s.toList==x.toList)=true:=(@BB s x).trans (zG c.symm);replace c:=zh c;clear d;go_wp2;go_ret;exact hQ.o _ rfl
   have m1:(s.toList==x.toList)=false:=(@BB s x).trans (zH fun h=>c h.symm);have hN:=zh (aa.o c);replace c:=zh c;clear d;go_wp2;exact⟨⟨k+1,by omega,by go_num,hN⟩,by simp only[intOf];omega⟩
  obtain rfl:k=l.length:=by omega
  have hQ:=zh (ae.o fun j h=>hI.o j h h);go_wp2;go_ret;exact hQ.o _ rfl
theorem Ju(l:List ByteArray)(A:Option Addr)(c:Nat)(s:ByteArray)(w:World)(hl:InStr w A l)(d:l.length<=140737488355328):
 Calls prog 92 #[.slice A l.length c,.string s] w fun e w'=>e=.returned (.bool (decide (s∈l)))/\w'=w:=by
 have ki:=zh (Jb l A c s w hl d)
 have hR:Hid (∀i,Y6 l s i->decide (0<=i)=decide (s∈l)):=fun i h=>by
  rcases h with⟨rfl,q⟩|⟨k,h,rfl,e,_⟩
  .rw[zH q];rfl
  rw[zG (show s∈l from e▸zO h)];exact zG (by omega)
 generalize decide (s∈l)=R at hR;clear hl;go_enter func92,ntmps92
 go_wp2_with fail
 refine ki.o.mono ?_;rintro e w' ⟨i,rfl,hi,hw⟩;obtain rfl:=hw.symm;have h2:=hR.o i hi;replace hi:=zh hi;go_wp2;go_ret;exact⟨by first|rfl|rw[h2],rfl⟩
theorem Wh(s:ByteArray)(w:World)(hs:s.size<=9223372036854775807):
 Calls prog 91 #[.string s] w fun e w'=>e=.returned (.bool (An s))/\w'=w:=by
 have HB:=zh (fun(k:Nat) (h:k<s.size) (hb:¬Bc k s[k].toNat)=>J7 (s:=s) h hb);have HA:=zh (J8 (s:=s));go_enter func91,ntmps91;go_wp2
 go_loop [8] (fun i=>∃k:Nat,k<=s.size/\i=.int .i64 k/\Hid (∀i (h:i<s.size),i<k->Bc i s[i].toNat)) (fun i=>s.size-(intOf i).toNat)
 case atStart=>exact⟨0,zS _,rfl,fun i _ h=>absurd h (yB _)⟩
 case round=>
  obtain⟨k,hk,rfl,hI⟩:=hrel
  by_cases hlt:k<s.size
  .have hc:s[k].toNat<=255:=by have:=s[k].toNat_lt;omega
   have i0:(0:Int)<=(k:Int):=by omega
   have i1:(k:Int)<(s.size:Int):=by omega
   have HN:Hid (Bc k s[k].toNat->∀i (h:i<s.size),i<k+1->Bc i s[i].toNat):=fun h i hi h2=>by
    by_cases e:i=k
    .subst e;exact h
    exact hI.o i hi (by omega)
   have HB2:=zh (HB.o k hlt);clear hI
   by_cases e0:k=0
   .have b0:((k:Int)==0)=true:=by rw[xQ];omega
    have b0n:((k:Int) != 0)=false:=by rw[zq];omega
    have b3:(k==0)=true:=by rw[xQ];omega
    replace e0:=zh e0;have d:(s[k].toNat<=47/\0<=s[k].toNat)\/(48<=s[k].toNat/\s[k].toNat<=57)\/(58<=s[k].toNat/\s[k].toNat<=64)\/(65<=s[k].toNat/\s[k].toNat<=90)\/(91<=s[k].toNat/\s[k].toNat<=94)\/(95<=s[k].toNat/\s[k].toNat<=95)\/(96<=s[k].toNat/\s[k].toNat<=96)\/(97<=s[k].toNat/\s[k].toNat<=122)\/(123<=s[k].toNat/\s[k].toNat<=255):=by omega
    rcases d with⟨g1,g2⟩|⟨g1,g2⟩|⟨g1,g2⟩|⟨g1,g2⟩|⟨g1,g2⟩|⟨g1,g2⟩|⟨g1,g2⟩|⟨g1,g2⟩|⟨g1,g2⟩
    .have b1:((s[k].toNat:Int) != 95)=true:=by rw[zm];omega
     have b2:((s[k].toNat:Int)==95)=false:=by rw[zN];omega
     have HR:Hid (An s=false):=HB2.o (by have:=e0.o;unfold Bc;omega);clear HN HB2;go_wp2;go_ret;exact⟨Ad HR.o.symm,rfl⟩
    .have b1:((s[k].toNat:Int) != 95)=true:=by rw[zm];omega
     have b2:((s[k].toNat:Int)==95)=false:=by rw[zN];omega
     have HR:Hid (An s=false):=HB2.o (by have:=e0.o;unfold Bc;omega);clear HN HB2;go_wp2;go_ret;exact⟨Ad HR.o.symm,rfl⟩
    .have b1:((s[k].toNat:Int) != 95)=true:=by rw[zm];omega
     have b2:((s[k].toNat:Int)==95)=false:=by rw[zN];omega
     have HR:Hid (An s=false):=HB2.o (by have:=e0.o;unfold Bc;omega);clear HN HB2;go_wp2;go_ret;exact⟨Ad HR.o.symm,rfl⟩
    .have b1:((s[k].toNat:Int) != 95)=true:=by rw[zm];omega
     have b2:((s[k].toNat:Int)==95)=false:=by rw[zN];omega
     have HR:=zh (HN.o (by have:=e0.o;unfold Bc;omega));clear HN HB2;go_wp2;go_round
     case rel=>exact⟨k+1,by omega,by go_num,HR⟩
     case measure=>simp[intOf];omega
    .have b1:((s[k].toNat:Int) != 95)=true:=by rw[zm];omega
     have b2:((s[k].toNat:Int)==95)=false:=by rw[zN];omega
     have c1:decide ((s[k].toNat:Int)<=90)=false:=by rw[zM];omega
     have d1:decide (s[k].toNat<=90)=false:=by rw[zM];omega
     have n1:¬((s[k].toNat:Int)<=90):=by omega
     have HR:Hid (An s=false):=HB2.o (by have:=e0.o;unfold Bc;omega);clear HN HB2;go_wp2;go_ret;exact⟨Ad HR.o.symm,rfl⟩
    .have b1:((s[k].toNat:Int) != 95)=false:=by rw[zq];omega
     have b2:((s[k].toNat:Int)==95)=true:=by rw[xQ];omega
     have c1:decide ((s[k].toNat:Int)<=90)=false:=by rw[zM];omega
     have d1:decide (s[k].toNat<=90)=false:=by rw[zM];omega
     have n1:¬((s[k].toNat:Int)<=90):=by omega
     have HR:Hid (An s=false):=HB2.o (by have:=e0.o;unfold Bc;omega);clear HN HB2;go_wp2;go_ret;exact⟨Ad HR.o.symm,rfl⟩
    .have b1:((s[k].toNat:Int) != 95)=true:=by rw[zm];omega
     have b2:((s[k].toNat:Int)==95)=false:=by rw[zN];omega
     have c1:decide ((s[k].toNat:Int)<=90)=false:=by rw[zM];omega
     have d1:decide (s[k].toNat<=90)=false:=by rw[zM];omega
     have n1:¬((s[k].toNat:Int)<=90):=by omega
     have HR:Hid (An s=false):=HB2.o (by have:=e0.o;unfold Bc;omega);clear HN HB2;go_wp2;go_ret;exact⟨Ad HR.o.symm,rfl⟩
    .have b1:((s[k].toNat:Int) != 95)=true:=by rw[zm];omega
     have b2:((s[k].toNat:Int)==95)=false:=by rw[zN];omega
     have c1:decide ((s[k].toNat:Int)<=90)=false:=by rw[zM];omega
     have d1:decide (s[k].toNat<=90)=false:=by rw[zM];omega
     have n1:¬((s[k].toNat:Int)<=90):=by omega
     have HR:=zh (HN.o (by have:=e0.o;unfold Bc;omega));clear HN HB2;go_wp2;go_round
     case rel=>exact⟨k+1,by omega,by go_num,HR⟩
     case measure=>simp[intOf];omega
    have b1:((s[k].toNat:Int) != 95)=true:=by rw[zm];omega
    have b2:((s[k].toNat:Int)==95)=false:=by rw[zN];omega
    have c0:decide ((s[k].toNat:Int)<=122)=false:=by rw[zM];omega
    have d0:decide (s[k].toNat<=122)=false:=by rw[zM];omega
    have n0:¬((s[k].toNat:Int)<=122):=by omega
    have c1:decide ((s[k].toNat:Int)<=90)=false:=by rw[zM];omega
    have d1:decide (s[k].toNat<=90)=false:=by rw[zM];omega
    have n1:¬((s[k].toNat:Int)<=90):=by omega
    have HR:Hid (An s=false):=HB2.o (by have:=e0.o;unfold Bc;omega);clear HN HB2;go_wp2;go_ret;exact⟨Ad HR.o.symm,rfl⟩
   have b0:((k:Int)==0)=false:=by rw[zN];omega
   have b0n:((k:Int) != 0)=true:=by rw[zm];omega
   have b3:(k==0)=false:=by rw[zN];omega
   have d:(s[k].toNat<=47/\0<=s[k].toNat)\/(48<=s[k].toNat/\s[k].toNat<=57)\/(58<=s[k].toNat/\s[k].toNat<=64)\/(65<=s[k].toNat/\s[k].toNat<=90)\/(91<=s[k].toNat/\s[k].toNat<=94)\/(95<=s[k].toNat/\s[k].toNat<=95)\/(96<=s[k].toNat/\s[k].toNat<=96)\/(97<=s[k].toNat/\s[k].toNat<=122)\/(123<=s[k].toNat/\s[k].toNat<=255):=by omega
   rcases d with⟨g1,g2⟩|⟨g1,g2⟩|⟨g1,g2⟩|⟨g1,g2⟩|⟨g1,g2⟩|⟨g1,g2⟩|⟨g1,g2⟩|⟨g1,g2⟩|⟨g1,g2⟩
   .have b1:((s[k].toNat:Int) != 95)=true:=by rw[zm];omega
    have b2:((s[k].toNat:Int)==95)=false:=by rw[zN];omega
    have HR:Hid (An s=false):=HB2.o (by unfold Bc;omega);clear HN HB2;go_wp2;go_ret;exact⟨Ad HR.o.symm,rfl⟩
   .have b1:((s[k].toNat:Int) != 95)=true:=by rw[zm];omega
    have b2:((s[k].toNat:Int)==95)=false:=by rw[zN];omega
    have HR:=zh (HN.o (by unfold Bc;omega));clear HN HB2;go_wp2;go_round
    case rel=>exact⟨k+1,by omega,by go_num,HR⟩
    case measure=>simp[intOf];omega
   .have b1:((s[k].toNat:Int) != 95)=true:=by rw[zm];omega
    have b2:((s[k].toNat:Int)==95)=false:=by rw[zN];omega
    have HR:Hid (An s=false):=HB2.o (by unfold Bc;omega);clear HN HB2;go_wp2;go_ret;exact⟨Ad HR.o.symm,rfl⟩
   .have b1:((s[k].toNat:Int) != 95)=true:=by rw[zm];omega
    have b2:((s[k].toNat:Int)==95)=false:=by rw[zN];omega
    have HR:=zh (HN.o (by unfold Bc;omega));clear HN HB2;go_wp2;go_round
    case rel=>exact⟨k+1,by omega,by go_num,HR⟩
    case measure=>simp[intOf];omega
   .have b1:((s[k].toNat:Int) != 95)=true:=by rw[zm];omega
    have b2:((s[k].toNat:Int)==95)=false:=by rw[zN];omega
    have c1:decide ((s[k].toNat:Int)<=90)=false:=by rw[zM];omega
    have d1:decide (s[k].toNat<=90)=false:=by rw[zM];omega
    have n1:¬((s[k].toNat:Int)<=90):=by omega
    have HR:Hid (An s=false):=HB2.o (by unfold Bc;omega);clear HN HB2;go_wp2;go_ret;exact⟨Ad HR.o.symm,rfl⟩
   .have b1:((s[k].toNat:Int) != 95)=false:=by rw[zq];omega
    have b2:((s[k].toNat:Int)==95)=true:=by rw[xQ];omega
    have c1:decide ((s[k].toNat:Int)<=90)=false:=by rw[zM];omega
    have d1:decide (s[k].toNat<=90)=false:=by rw[zM];omega
    have n1:¬((s[k].toNat:Int)<=90):=by omega
    have HR:=zh (HN.o (by unfold Bc;omega));clear HN HB2;go_wp2;go_round
    case rel=>exact⟨k+1,by omega,by go_num,HR⟩
    case measure=>simp[intOf];omega
   .have b1:((s[k].toNat:Int) != 95)=true:=by rw[zm];omega
    have b2:((s[k].toNat:Int)==95)=false:=by rw[zN];omega
    have c1:decide ((s[k].toNat:Int)<=90)=false:=by rw[zM];omega
    have d1:decide (s[k].toNat<=90)=false:=by rw[zM];omega
    have n1:¬((s[k].toNat:Int)<=90):=by omega
    have HR:Hid (An s=false):=HB2.o (by unfold Bc;omega);clear HN HB2;go_wp2;go_ret;exact⟨Ad HR.o.symm,rfl⟩
   .have b1:((s[k].toNat:Int) != 95)=true:=by rw[zm];omega
    have b2:((s[k].toNat:Int)==95)=false:=by rw[zN];omega
    have c1:decide ((s[k].toNat:Int)<=90)=false:=by rw[zM];omega
    have d1:decide (s[k].toNat<=90)=false:=by rw[zM];omega
    have n1:¬((s[k].toNat:Int)<=90):=by omega
    have HR:=zh (HN.o (by unfold Bc;omega));clear HN HB2;go_wp2;go_round
    case rel=>exact⟨k+1,by omega,by go_num,HR⟩
    case measure=>simp[intOf];omega
   have b1:((s[k].toNat:Int) != 95)=true:=by rw[zm];omega
   have b2:((s[k].toNat:Int)==95)=false:=by rw[zN];omega
   have c0:decide ((s[k].toNat:Int)<=122)=false:=by rw[zM];omega
   have d0:decide (s[k].toNat<=122)=false:=by rw[zM];omega
   have n0:¬((s[k].toNat:Int)<=122):=by omega
   have c1:decide ((s[k].toNat:Int)<=90)=false:=by rw[zM];omega
   have d1:decide (s[k].toNat<=90)=false:=by rw[zM];omega
   have n1:¬((s[k].toNat:Int)<=90):=by omega
   have HR:Hid (An s=false):=HB2.o (by unfold Bc;omega);clear HN HB2;go_wp2;go_ret;exact⟨Ad HR.o.symm,rfl⟩
  obtain rfl:k=s.size:=by omega
  have HE:Hid (An s=(decide (0<s.size)&&decide (s.size<=24))):=HA.o fun i h=>hI.o i h h
  have q0:s.toList.isEmpty=decide (s.size=0):=by
   rw[ya,wv]
   cases s.data.toList<;>simp
  clear hI
  by_cases h0:s.size=0
  .have q1:s.toList=[]:=by simpa [h0] using q0
   have q2:(!s.toList.isEmpty)=false:=by rw[q0,zG h0];rfl
   clear q0;go_wp2;go_ret;exact⟨Ad (by rw[HE.o,zH (by omega)];rfl),rfl⟩
  have q2:(!s.toList.isEmpty)=true:=by rw[q0,zH h0];rfl
  have q1:¬s.toList=[]:=fun e=>by rw[e]at q0;rw[zH h0]at q0;cases q0
  clear q0
  by_cases h24:s.size<=24
  .go_wp2;go_ret;exact⟨Ad (by rw[HE.o,zG (by omega:0<s.size),zG h24,zG (by omega:(s.size:Int)<=24)];rfl),rfl⟩
  go_wp2;go_ret;exact⟨Ad (by rw[HE.o,zG (by omega:0<s.size),zH h24,zH (by omega:¬(s.size:Int)<=24)];rfl),rfl⟩
theorem Kt(s:ByteArray)(w:World)(hs:s.size<=9223372036854775807):
 Calls prog 91 #[.string s] w fun e w'=>e=.returned (.bool (An s))/\Below w.heap.size w w' :=
 (Wh s w hs).mono fun e w' h=>by
   obtain⟨rfl,rfl⟩:=h;exact⟨rfl,zI _ _⟩
def CW(day:Int)(l:List ByteArray)(pa:ByteArray)(pc:Int):Bool:=EN l&&(decide (D7 day)&&(decide (l.length<=60)&&(An pa&&decide (1<=pc/\pc<=100))))
theorem Rr(day:Int)(l:List ByteArray)(pa:ByteArray)(pc:Int)(A:Option Addr)(c:Nat)(w:World)(hs:InStr w A l)(hz:∀x∈l,x.size<=140737488355328)(aw:l.length<=140737488355328)(zp:pa.size<=140737488355328):
 Calls prog 45 #[.agg #[.int .i64 day,.slice A l.length c,.string pa,.int .i64 pc]] w fun e w'=>e=.returned (.bool (CW day l pa pc))/\Below w.heap.size w w':=by
 have au:=zh (fun(k:Nat) (h:k<l.length) (hb:¬BZ l k h)=>J9 (l:=l) h hb);have ar:=zh (JB (l:=l));have ap:Hid (Bk (w.alloc (.cells #[.int .i64 day,.slice A l.length c,.string pa,.int .i64 pc] 102)) w.heap.size 102 [.int .i64 day,.slice A l.length c,.string pa,.int .i64 pc]):=Bk.new w _ _;have an:Hid (Below w.heap.size w (w.alloc (.cells #[.int .i64 day,.slice A l.length c,.string pa,.int .i64 pc] 102))):=(zI _ w).alloc (zB _) _;obtain⟨R,hR⟩:∃R,R=CW day l pa pc:=⟨_,rfl⟩;have ao:Hid (EN l=false->R=false):=fun h=>by rw[hR];unfold CW;rw[h];rfl
 have av:Hid (EN l=true->R=(decide (D7 day)&&(decide (l.length<=60)&&(An pa&&decide (1<=pc/\pc<=100))))):=fun h=>by rw[hR];unfold CW;rw[h];rfl
 rw[<-hR];replace hR:=zh hR;replace hs:=zh hs;replace hz:=zh hz;go_enter func45,ntmps45;go_wp2
 go_loopw [8] (fun i wr=>∃k:Nat,k<=l.length/\i=.int .i64 (k:Int)/\Hid (Below w.heap.size w wr)/\Hid (Bk wr w.heap.size 102 [.int .i64 day,.slice A l.length c,.string pa,.int .i64 pc])/\Hid (∀i (h:i<l.length),i<k->BZ l i h)) (fun i _=>l.length-(intOf i).toNat)
 case atStart=>exact⟨0,zS _,rfl,an,ap,fun i _ h=>absurd h (yB _)⟩
 case round=>
  obtain⟨k,hk,rfl,hB,hX,hA⟩:=hrel;clear ap an
  by_cases hlt:k<l.length
  .obtain ⟨b,o,rfl,aq,hc⟩:=(hs.o.below hB.o) (by omega);have e1:=hc k hlt;have e0:Hid (0<k->wr.cell? ⟨b,o+(k-1),none⟩=some (.string (l[k-1]'(by omega)))):=fun h=>hc (k-1) (by omega);have zx:=hz.o l[k] (zO hlt);have aj:=zh (au.o k hlt)
   have ah:Hid (BZ l k hlt->∀i (h:i<l.length),i<k+1->BZ l i h):=fun h i hi h2=>by
    by_cases e:i=k
    .subst e;exact h
    exact hA.o i hi (by omega)
   have ae:Hid (BZ l k hlt<->An l[k]=true/\(0<k->KD l[k] (l[k-1]'(by omega))=false)):=wH;obtain⟨nm,am⟩:∃x,x=l[k]:=⟨_,rfl⟩;rw[<-am]at e1 zx ae;replace am:=zh am;have u0:=hX.o.c1;have u9:=hX.o.lt;have i0:(0:Int)<=(k:Int):=by omega
   have i1:(k:Int)<(l.length:Int):=by omega
   have kn:=Kt nm;clear hc
   cases af:An nm with
   |false=>
    have HG:Hid (R=false):=ao.o (aj.o fun h=>by have:=(ae.o.1 h).1;rw[af]at this;cases this);rw[af]at kn;replace kn:=zh kn;clear af ae ah
    go_wp2_with fail
    refine(kn.o _ (by omega)).q fun w2 hb=>?_;have aa:=hB.t hb;clear hb;go_wp2;go_ret;exact⟨Ad HG.o.symm,aa.o⟩
   |true=>
    rw[af]at kn;replace kn:=zh kn
    by_cases hk0:k=0
    .have m1:decide (0<(k:Int))=false:=zH (by omega);have m2:decide (0<k)=false:=zH (by omega);have HN:=zh (ah.o (ae.o.2 ⟨af,fun h=>by omega⟩));replace hk0:=zh hk0;clear af ae ah aj
     go_wp2_with fail
     refine(kn.o _ (by omega)).q fun w2 hb=>?_;have aa:=hB.t hb;have ad:=zh (hX.o.below hb);clear hb e1 u0 u9;go_wp2
     go_roundw
     case rel=>exact⟨k+1,by omega,by go_num,aa,ad,HN⟩
     case measure=>simp[intOf];omega
    have m1:decide (0<(k:Int))=true:=zG (by omega);have m2:decide (0<k)=true:=zG (by omega);have e2:=e0.o (by omega);obtain⟨pm,ak⟩:∃x,x=l[k-1]'(by omega):=⟨_,rfl⟩;rw[<-ak]at e2
    have ag:Hid (BZ l k hlt<->An nm=true/\KD nm pm=false):=by
     rw[ak];exact⟨fun h=>⟨(ae.o.1 h).1,(ae.o.1 h).2 (by omega)⟩,fun h=>ae.o.2 ⟨h.1,fun _=>h.2⟩⟩
    replace ak:=zh ak;have al:=OK 9 nm pm;have j1:(0:Int)<=(k:Int)-1:=by omega
    have j2:(k:Int)-1<(l.length:Int):=by omega
    have j3:((k:Int)-1).toNat=k-1:=by omega
    cases ai:KD nm pm with
    |true=>
     have HG:Hid (R=false):=ao.o (aj.o fun h=>by have:=(ag.o.1 h).2;rw[ai]at this;cases this);rw[ai]at al;clear af ae ah ag ai e0 aj
     go_wp2_with fail
     refine(kn.o _ (by omega)).q fun w2 hb=>?_;have aa:=hB.t hb;have ad:=zh (hX.o.below hb);replace e2:=(hb.cell (p:=⟨b,o+(k-1),none⟩) aq).trans e2;clear hb e1 u0 u9;have u0:=ad.o.c1;have u9:=ad.o.lt;go_wp2;go_ret;exact⟨Ad HG.o.symm,aa.o⟩
    |false=>
     have HN:=zh (ah.o (ag.o.2 ⟨af,ai⟩));rw[ai]at al;clear af ae ah ag ai e0 aj
     go_wp2_with fail
     refine(kn.o _ (by omega)).q fun w2 hb=>?_;have aa:=hB.t hb;have ad:=zh (hX.o.below hb);replace e2:=(hb.cell (p:=⟨b,o+(k-1),none⟩) aq).trans e2;clear hb e1 u0 u9;have u0:=ad.o.c1;have u9:=ad.o.lt;go_wp2
     go_roundw
     case rel=>exact⟨k+1,by omega,by go_num,aa,ad,HN⟩
     case measure=>simp[intOf];omega
  obtain rfl:k=l.length:=by omega
  have hN:=zh (av.o (ar.o fun i h=>hA.o i h h));clear hA;have u0:=hX.o.c0;have u1:=hX.o.c1;have u2:=hX.o.c2;have u3:=hX.o.c3;have u9:=hX.o.lt
  by_cases c1:0<=day
  rotate_left
  .have hQ:Hid (R=false):=by show R=false;rw[hN.o,zH (fun h=>c1 h.1)];rfl
   have m1:decide (0<=day)=false:=zH c1;have m2:day<0:=by omega
   go_wp2;go_ret;exact⟨Ad hQ.o.symm,hB.o⟩
  by_cases c2:day<=100000
  rotate_left
  .have hQ:Hid (R=false):=by show R=false;rw[hN.o,zH (fun h=>c2 h.2)];rfl
   have m2:100000<day:=by omega
   go_wp2;go_ret;exact⟨Ad hQ.o.symm,hB.o⟩
  by_cases c3:l.length<=60
  rotate_left
  .have hQ:Hid (R=false):=by show R=false;rw[hN.o,zH c3];simp
   have m3:60<l.length:=by omega
   go_wp2;go_ret;exact⟨Ad hQ.o.symm,hB.o⟩
  have kn:=zh (Kt pa wr (by omega));obtain⟨d,hd⟩:∃d,d=An pa:=⟨_,rfl⟩;rw[<-hd]at kn;replace hd:=zh hd
  go_wp2_with fail
  refine kn.o.q fun w2 hb=>?_;have aa:=hB.t hb;have ad:=zh (hX.o.below hb);have v3:=ad.o.c3;have v9:=ad.o.lt;clear u0 u1 u2 u3 u9 hb
  cases d with
  |false=>
   have hQ:Hid (R=false):=by show R=false;rw[hN.o,<-hd.o];simp
   go_wp2;go_ret;exact⟨Ad hQ.o.symm,aa.o⟩
  |true=>
   by_cases c5:1<=pc
   rotate_left
   .have hQ:Hid (R=false):=by show R=false;rw[hN.o,zH (fun h=>c5 h.1:¬(1<=pc/\pc<=100))];simp
    have m5:pc<1:=by omega
    go_wp2;go_ret;exact⟨Ad hQ.o.symm,aa.o⟩
   by_cases c6:pc<=100
   .have hQ:Hid (R=true):=by show R=true;rw[hN.o,<-hd.o,zG (show D7 day from⟨c1,c2⟩),zG c3,zG (⟨c5,c6⟩:1<=pc/\pc<=100)];rfl
    go_wp2;go_ret;exact⟨Ad hQ.o.symm,aa.o⟩
   have hQ:Hid (R=false):=by show R=false;rw[hN.o,zH (fun h=>c6 h.2:¬(1<=pc/\pc<=100))];simp
   have m6:decide (pc<=100)=false:=zH c6;go_wp2;go_ret;exact⟨Ad hQ.o.symm,aa.o⟩
def CQ(nm:List ByteArray)(ps:List ByteArray)(k:Nat):List Int:=((List.range k).filter fun i:Nat=>decide (Rg.nm ps (i:Int)∈nm)).map fun i:Nat=>(i:Int)
theorem Rs{nm ps:List ByteArray}{k:Nat}(h:k<ps.length):CQ nm ps (k+1)=CQ nm ps k++if ps[k]∈nm then [(k:Int)] else []:=by
 unfold CQ;rw[xo,yQ,yD]
 congr 1
 have e:=Fc h
 by_cases c:ps[k]∈nm
 .rw[zF c,zk,zF (by rw[e];exact zG c)];rfl
 rw[zE c,zk,zE (by rw[e,zH c];decide)];rfl
theorem MJ(nm ps:List ByteArray)(k:Nat):(CQ nm ps k).length<=k:=by
 unfold CQ;rw[zW];exact zQ (zy _ _) (by rw[yh];exact zB _)
noncomputable def Jv(s:SR)(F:List Int):Int:=if Ak s=true/\AZ s.ps.length F=true then (if Sh.AX s.ps.length (Ah s) (toN F)=true then 2 else 0) else 1
def OwnR(s:SR)(nm:List ByteArray)(pa:ByteArray)(pc:Int)(b:Bool)(e:Int):Prop :=
 (Jv s (CQ nm s.ps s.ps.length)≠0/\b=false/\e=Jv s (CQ nm s.ps s.ps.length)) \/
 (Jv s (CQ nm s.ps s.ps.length)=0/\e=0/\((pa∉s.ps/\b=false)\/∃(k:Nat)(h:k<s.ps.length),s.ps[k]=pa/\(∀j (hj:j<s.ps.length),j<k->s.ps[j]≠pa) /\
   b=(decide ((k:Int)∈CQ nm s.ps s.ps.length)||decide (0<=Is (Sh.ev s (CQ nm s.ps s.ps.length) k) (ofQ pc 100))||Co.rd (Co.VT s) (toN (CQ nm s.ps s.ps.length)) k != -1)))
theorem OwnR.unique{s:SR}{nm:List ByteArray}{pa:ByteArray}{pc:Int}{b c:Bool}{e f:Int}(h:OwnR s nm pa pc b e)(k:OwnR s nm pa pc c f):b=c/\e=f:=by
 rcases h with⟨h1,h2,h3⟩|⟨h1,h2,h3⟩<;>rcases k with⟨k1,k2,k3⟩|⟨k1,k2,k3⟩
 .exact⟨h2.trans k2.symm,h3.trans k3.symm⟩
 .exact absurd k1 h1
 .exact absurd h1 k1
 refine⟨?_,h2.trans k2.symm⟩
 rcases h3 with⟨a1,a2⟩|⟨i,hi,a1,a2,a3⟩<;>rcases k3 with⟨b1,b2⟩|⟨j,hj,b1,b2,b3⟩
 .exact a2.trans b2.symm
 .exact absurd (b1▸zO hj) a1
 .exact absurd (a1▸zO hi) b1
 have:i=j:=by
  rcases Nat.lt_trichotomy i j with c|c|c
  .exact absurd a1 (b2 i hi c)
  .exact c
  exact absurd b1 (a2 j hj c)
 subst this;exact a3.trans b3.symm
theorem Rt{W:World}{base:Nat}{e:TypeId}{A:Option Addr}{n c:Nat}{l:List Int}(h:W.ownsRow base e 1 (.slice A n c) n (l.map (.int .i64))):InInt W A l:=fun h0=>by
 rcases h.2 with⟨h1,h2⟩|⟨g',cap',cur,h1,_,hg,_⟩
 .have:=h.1;rw[zW]at this;omega
 injection h1 with h1;refine⟨g',0,h1,(Array.getElem?_eq_some_iff.1 hg).1,fun j hj=>?_⟩;have:=h.cells (g:=g') (by rw[h1];rfl) j (.int .i64 l[j]) (by rw[wY,ze hj];rfl);rw[IU]at this;exact this
def OwPost(l:List Hd)(day:Int)(nm:List ByteArray)(pa:ByteArray)(pc:Int)(w:World)(e:Ending)(w':World):Prop :=
 (∃s b f,e=.returned (.tuple #[.bool b,.int .i64 f])/\AtS l day s/\OwnR s nm pa pc b f)/\Below w.heap.size w w'
theorem OwPost.no{l:List Hd}{day:Int}{nm:List ByteArray}{pa:ByteArray}{pc:Int}{w w':World}{e:Ending}{s:SR}{f:Int}(hA:AtS l day s)(hf:f=Jv s (CQ nm s.ps s.ps.length))(h0:f≠0)(he:e=.returned (.tuple #[.bool false,.int .i64 f]))(hb:Below w.heap.size w w'):OwPost l day nm pa pc w e w' :=
 ⟨⟨s,false,f,he,hA,.inl ⟨by rw[<-hf];exact h0,rfl,hf⟩⟩,hb⟩
theorem Ru(l:List Hd)(A0:Option Addr)(cap:Nat)(day:Int)(nm:List ByteArray)(Al:Option Addr)(cl:Nat)(pa:ByteArray)(pc:Int)(w:World)(hE:Env w)(hl:InHd w A0 l)(hz:∀h∈l,HdSz h)(bC:l.length<=60)(hV:Valid l)(hd:D7 day)
 (hn:InStr w Al nm)(bt:nm.length<=140737488355328)(bu:1<=pc/\pc<=100):
 Calls prog 46 #[.agg #[.int .i64 day,.slice Al nm.length cl,.string pa,.int .i64 pc],.slice A0 l.length cap] w (OwPost l day nm pa pc w):=by
 have an:Hid (Bk (w.alloc (.cells #[.int .i64 day,.slice Al nm.length cl,.string pa,.int .i64 pc] 102)) w.heap.size 102 [.int .i64 day,.slice Al nm.length cl,.string pa,.int .i64 pc]):=Bk.new w _ _;have aG:Hid (Below w.heap.size w (w.alloc (.cells #[.int .i64 day,.slice Al nm.length cl,.string pa,.int .i64 pc] 102))):=(zI _ w).alloc (zB _) _;have aD:=zh (an.o.alloc (.cells #[.int .i64 day,.slice Al nm.length cl,.string pa,.int .i64 pc,.slice none 0 0,.slice none 0 0,.slice none 0 0,.slice none 0 0,.int .i64 0,.slice none 0 0] 147))
 have bf:Hid (Bk ((w.alloc (.cells #[.int .i64 day,.slice Al nm.length cl,.string pa,.int .i64 pc] 102)).alloc (.cells #[.int .i64 day,.slice Al nm.length cl,.string pa,.int .i64 pc,.slice none 0 0,.slice none 0 0,.slice none 0 0,.slice none 0 0,.int .i64 0,.slice none 0 0] 147)) (w.heap.size+1) 147 [.int .i64 day,.slice Al nm.length cl,.string pa,.int .i64 pc,.slice none 0 0,.slice none 0 0,.slice none 0 0,.slice none 0 0,.int .i64 0,.slice none 0 0]):=by
  have h:=Bk.new (w.alloc (.cells #[.int .i64 day,.slice Al nm.length cl,.string pa,.int .i64 pc] 102)) 147 [.int .i64 day,.slice Al nm.length cl,.string pa,.int .i64 pc,.slice none 0 0,.slice none 0 0,.slice none 0 0,.slice none 0 0,.int .i64 0,.slice none 0 0];simp only[zV]at h;exact h
 have ap:Hid (Below w.heap.size w ((w.alloc (.cells #[.int .i64 day,.slice Al nm.length cl,.string pa,.int .i64 pc] 102)).alloc (.cells #[.int .i64 day,.slice Al nm.length cl,.string pa,.int .i64 pc,.slice none 0 0,.slice none 0 0,.slice none 0 0,.slice none 0 0,.int .i64 0,.slice none 0 0] 147))):=aG.o.alloc aG.o.size _;have ka:=zh (UD l A0 cap day _ (hE.below ap.o) (hl.below ap.o) hz (by omega));have y0:=an.o.c0;have y1:=an.o.c1;have y2:=an.o.c2;have y3:=an.o.c3;have y9:=an.o.lt;have z0:=aD.o.c0;have z9:=aD.o.lt;replace hE:=zh hE;replace hl:=zh hl;replace hz:=zh hz;replace hV:=zh hV;replace hn:=zh hn;go_enter func46,ntmps46
 go_wp2_with fail
 refine ka.o.mono ?_;rintro e w3 ⟨bh,bi,au⟩;obtain⟨s,Ap,Ac,Av,cp,cc,cv,rfl,ak,aK,bB,bD,fp,fc,fv⟩:=bh ⟨hV.o,hd⟩;have a8:=zh (aD.o.below au);have ag:=zh (bf.o.below au);have aT:Hid (Below w.heap.size w w3):=ap.o.trans (au.mono ap.o.size);have bG:w.heap.size+2<=w3.heap.size:=by have:=au.size;simp at this;omega
 clear ka y0 y1 y2 y3 y9 z0 z9 bi au an aD bf aG ap;simp only[zV]at fp fc fv;have x4:=ag.o.c4;have x5:=ag.o.c5;have x6:=ag.o.c6;have g4:=ag.o.frozen 4;have g5:=ag.o.frozen 5;have g6:=ag.o.frozen 6;have x9:=ag.o.lt;have av:Hid (Kp [w.heap.size+1] w3 (((w3.setCell ⟨w.heap.size+1,4,none⟩ (.slice Ap s.ps.length cp)).setCell ⟨w.heap.size+1,5,none⟩ (.slice Ac s.cap.length cc)).setCell ⟨w.heap.size+1,6,none⟩ (.slice Av s.vot.length cv))):=(((Kp.refl _ w3).set _ (.inl (by simp))).set _ (.inl (by simp))).set _ (.inl (by simp));have az:Hid (Bk (((w3.setCell ⟨w.heap.size+1,4,none⟩ (.slice Ap s.ps.length cp)).setCell ⟨w.heap.size+1,5,none⟩ (.slice Ac s.cap.length cc)).setCell ⟨w.heap.size+1,6,none⟩ (.slice Av s.vot.length cv)) (w.heap.size+1) 147 [.int .i64 day,.slice Al nm.length cl,.string pa,.int .i64 pc,.slice Ap s.ps.length cp,.slice Ac s.cap.length cc,.slice Av s.vot.length cv,.slice none 0 0,.int .i64 0,.slice none 0 0]):=((ag.o.set 4 _).set 5 _).set 6 _;have aF:∀W,W=(((w3.setCell ⟨w.heap.size+1,4,none⟩ (.slice Ap s.ps.length cp)).setCell ⟨w.heap.size+1,5,none⟩ (.slice Ac s.cap.length cc)).setCell ⟨w.heap.size+1,6,none⟩ (.slice Av s.vot.length cv))->W.heap.size=w3.heap.size:=fun W e=>by rw[e];simp
 obtain⟨w4,ay⟩:∃q,q=(((w3.setCell ⟨w.heap.size+1,4,none⟩ (.slice Ap s.ps.length cp)).setCell ⟨w.heap.size+1,5,none⟩ (.slice Ac s.cap.length cc)).setCell ⟨w.heap.size+1,6,none⟩ (.slice Av s.vot.length cv)):=⟨_,rfl⟩;have bc:=aF _ ay;rw[<-ay]at av az;have v4:=az.o.c4;have v9:=az.o.lt;rw[ay]at v4 v9;go_wp2;rw[<-ay];clear x4 x5 x6 g4 g5 g6 x9 v4 v9 aF;have a4:=zh (StIn.kp aK av.o (zw _) fp fc fv);have bv:=zh (a8.o.kp av.o (by simp));have bj:Hid (Below w.heap.size w w4):=av.o.to_below aT.o (by simp);have a0:Hid (w4.ownsRow w4.heap.size 3 1 (.slice none 0 0) 0 ((CQ nm s.ps 0).map (.int .i64))):=yf _ _ _ _;have aY:Hid (Kp [w.heap.size+1] w4 w4):=Kp.refl _ _;have bE:=aK.np;have bF:s.ps.length<=60:=hV.o.2.2.1 _ ak.1;obtain⟨i0,hi,aQ,aR,aS⟩:=vX GV;replace ak:=zh ak;replace fp:=zh fp;replace fc:=zh fc;replace fv:=zh fv;replace hi:=zh hi;replace aQ:=zh aQ;replace aR:=zh aR;replace aS:=zh aS;clear av aT a8 ag aK ay
 go_loopw [24] (fun i wr=>∃(k n:Nat)(Aw:Option Addr)(cw:Nat),k<=s.ps.length/\i=.int .i64 (k:Int)/\n=(CQ nm s.ps k).length/\Hid (Bk wr (w.heap.size+1) 147 [.int .i64 day,.slice Al nm.length cl,.string pa,.int .i64 pc,.slice Ap s.ps.length cp,.slice Ac s.cap.length cc,.slice Av s.vot.length cv,.slice Aw n cw,.int .i64 0,.slice none 0 0])/\Hid (wr.ownsRow w4.heap.size 3 1 (.slice Aw n cw) n ((CQ nm s.ps k).map (.int .i64)))/\Hid (Kp [w.heap.size+1] w4 wr)) (fun i _=>s.ps.length-(intOf i).toNat)
 case atStart=>exact⟨0,0,none,0,zS _,rfl,rfl,az,a0,aY⟩
 case round=>
  obtain⟨k,n,Aw,cw,hk,rfl,am,hx,hO,hK⟩:=hrel;clear az a0 aY;have bw:n<=60:=by have:=MJ nm s.ps k;omega
  replace am:=zh am;obtain⟨wz,rfl⟩:∃z,z=wr:=⟨_,rfl⟩;have hB:Hid (Below w.heap.size w wz):=hK.o.to_below bj.o (by simp);have aB:=zh (StIn.kp a4.o hK.o (zw _) fp.o fc.o fv.o);have aE:=zh (bv.o.kp hK.o (by simp))
  by_cases hlt:k<s.ps.length
  .obtain ⟨b,off,rfl,bA,a6⟩:=aB.o.ps (by omega);have e0:=a6 k hlt;have ax:=Rs (nm:=nm) hlt;have k0:(0:Int)<=(k:Int):=by omega
   have k1:(k:Int)<(s.ps.length:Int):=by omega
   have kc:=zh (Ju nm Al cl s.ps[k] wz (hn.o.below hB.o) bt);generalize s.ps[k]=na at e0 ax kc;clear a6;replace ax:=zh ax;obtain⟨d,hd⟩:∃q,q=decide (na∈nm):=⟨_,rfl⟩;rw[<-hd]at kc;replace hd:=zh hd;have z1:=aE.o.c1;have z9:=aE.o.lt
   go_wp2_with fail
   refine kc.o.mono ?_;rintro e w5 ⟨rfl,rfl⟩;clear kc z1 z9 e0
   cases d with
   |false=>
    have ar:Hid (CQ nm s.ps (k+1)=CQ nm s.ps k):=zh (by rw[ax.o,zE (yA hd.o.symm),xV]);go_wp2;exact⟨⟨k+1,n,Aw,cw,by omega,by go_num,by rw[ar.o];exact am.o,hx,by rw[ar.o];exact hO,hK⟩,by simp only[intOf];omega⟩
   |true=>
    have ar:Hid (CQ nm s.ps (k+1)=CQ nm s.ps k++[(k:Int)]):=zh (by rw[ax.o,zF (zL hd.o.symm)]);have aI:Hid ((w5.alloc (.cells #[.int .i64 (k:Int)] 3)).ownsRow w4.heap.size 3 1 (.slice Aw n cw) n ((CQ nm s.ps k).map (.int .i64))):=hO.o.alloc _;have ah:=zh (hx.o.alloc (.cells #[.int .i64 (k:Int)] 3));have aZ:=zh (hK.o.alloc (.cells #[.int .i64 (k:Int)] 3));have bx:w.heap.size+1<w4.heap.size:=by rw[bc];omega
    have aP:Hid (∀(A9:Option Addr)(c9:Nat)(wb:World),wb.ownsRow w4.heap.size 3 1 (.slice A9 (n+1) c9) (n+1) ((CQ nm s.ps k).map (.int .i64)++[.int .i64 (k:Int)])->(w5.alloc (.cells #[.int .i64 (k:Int)] 3)).grownBy wb (Value.slice Aw n cw).ownBlock ->
     Bk wb (w.heap.size+1) 147 [.int .i64 day,.slice Al nm.length cl,.string pa,.int .i64 pc,.slice (some ⟨b,off,none⟩) s.ps.length cp,.slice Ac s.cap.length cc,.slice Av s.vot.length cv,.slice Aw n cw,.int .i64 0,.slice none 0 0]/\Bk (wb.setCell ⟨w.heap.size+1,7,none⟩ (.slice A9 (n+1) c9)) (w.heap.size+1) 147 [.int .i64 day,.slice Al nm.length cl,.string pa,.int .i64 pc,.slice (some ⟨b,off,none⟩) s.ps.length cp,.slice Ac s.cap.length cc,.slice Av s.vot.length cv,.slice A9 (n+1) c9,.int .i64 0,.slice none 0 0]/\(wb.setCell ⟨w.heap.size+1,7,none⟩ (.slice A9 (n+1) c9)).ownsRow w4.heap.size 3 1 (.slice A9 (n+1) c9) (n+1) ((CQ nm s.ps (k+1)).map (.int .i64))/\Kp [w.heap.size+1] w4 (wb.setCell ⟨w.heap.size+1,7,none⟩ (.slice A9 (n+1) c9))/\n+1=(CQ nm s.ps (k+1)).length):=fun A9 c9 wb h1 h2=>by
     have h3:Bk wb (w.heap.size+1) 147 [.int .i64 day,.slice Al nm.length cl,.string pa,.int .i64 pc,.slice (some ⟨b,off,none⟩) s.ps.length cp,.slice Ac s.cap.length cc,.slice Av s.vot.length cv,.slice Aw n cw,.int .i64 0,.slice none 0 0]:=ah.o.grown h2 fun e=>by have:=(aI.o.lt _ e.symm).1;omega
     have h4:wb.ownsRow w4.heap.size 3 1 (.slice A9 (n+1) c9) (n+1) ((CQ nm s.ps (k+1)).map (.int .i64)):=by rw[ar.o,yD];exact h1
     exact⟨h3,h3.set 7 _,h4.kept (Ci.A8 _ _ _) (.inr fun e=>by have:=(h4.lt (w.heap.size+1) e).1;omega),(aZ.o.grown h2 fun b e=>.inr (aI.o.lt b e).1).set _ (.inl (by simp)),by rw[ar.o,zX,<-am.o];rfl⟩
    have bn:Hid (w4.heap.size<=(w5.alloc (.cells #[.int .i64 (k:Int)] 3)).heap.size):=aZ.o.size;have x7:=hx.o.c7;have x9:=hx.o.lt
    go_wp2_with (at_builtin;refine Ci.wpList_append_new _ rfl _ _ 37 rfl w4.heap.size 3 i0 (.int .i64 0) 1 8 underlying37 hi.o aQ.o aR.o aS.o rfl (by decide) (.slice Aw n cw) n _ rfl aI.o ⟨w5.heap.size,0,none⟩ 1 1 [.int .i64 (k:Int)] rfl rfl (Ci.BO _ _ _) (Ci.AQ _ rfl) (by decide) (by unfold maxLen;omega) (by omega) bn.o ?_;intro vb wb ho hg bs;obtain⟨A9,c9,rfl⟩:=Ci.Dy ho;obtain⟨q1,q2,q3,q4,q5⟩:=aP.o A9 c9 wb ho hg;replace q2:=zh q2;replace q3:=zh q3;replace q4:=zh q4;replace q5:=zh q5;have y7:=q1.c7;have y8:=q1.frozen 7;have y9:=q1.lt;clear ho hg bs q1 x7 x9)
    exact⟨⟨k+1,n+1,A9,c9,by omega,by go_num,q5.o,q2,q3,q4⟩,by simp only[intOf];omega⟩
  obtain rfl:k=s.ps.length:=by omega
  obtain⟨F,hF⟩:∃F,F=CQ nm s.ps s.ps.length:=⟨_,rfl⟩;rw[<-hF]at am hO;have aq:InInt wz Aw F:=Rt hO.o;have bz:F.length<=60:=by have:=MJ nm s.ps s.ps.length;rw[<-hF]at this;omega
  obtain rfl:n=F.length:=am.o;have ke:=zh (Sh.Pm s Ap Ac Av Aw cp cc cv cw F wz (hE.o.below hB.o) aB.o (by omega) aq (by omega));have x4:=hx.o.c4;have x5:=hx.o.c5;have x6:=hx.o.c6;have x7:=hx.o.c7;have xl:=hx.o.lt;replace hF:=zh hF;replace aq:=zh aq;have bm:=hO;clear am hO
  go_wp2_with fail
  refine ke.o.mono ?_;rintro e w5 ⟨h5,ae⟩;clear ke x4 x5 x6 x7 xl
  by_cases hg:Ak s=true/\AZ s.ps.length F=true
  .rw [zF hg]at h5
   by_cases ht:Sh.AX s.ps.length (Ah s) (toN F)=true
   .rw[zF ht]at h5;subst h5;have aa:=zh (hx.o.below ae);have ao:Hid (Below w.heap.size w w5):=hB.o.trans (ae.mono hB.o.size);have ad:Hid (∀e w',e=.returned (.tuple #[.bool false,.int .i64 2])->Below w.heap.size w w'->OwPost l day nm pa pc w e w'):=fun e w' h1 h2=>OwPost.no ak.o (by unfold Jv;rw[<-hF];rw[zF hg,zF ht]) (by decide) h1 h2;have x9:=aa.o.cell (j:=9) rfl;have g9:=aa.o.frozen 9;have xl:=aa.o.lt;clear ae hx;go_wp2;go_ret2;exact ad.o _ _ rfl (ao.o.setCell (p:=⟨w.heap.size+1,9,none⟩) (wD _) _)
   rw[zE ht]at h5;obtain⟨eb,rfl,bo,hR⟩:=h5;have a7:Hid (Jv s F=0):=zh (by unfold Jv;rw[zF hg,zE ht]);have ao:Hid (Below w.heap.size w w5):=hB.o.trans (ae.mono hB.o.size);have aa:=zh (hx.o.below ae);have a9:=zh (aE.o.below ae);have a2:=zh (aB.o.below ae);have aV:Hid (InInt w5 Aw F):=aq.o.below ae;have bH:w.heap.size+1<eb:=zJ hx.o.lt bo;have aX:∀b off,Aw=some ⟨b,off,none⟩->b≠w.heap.size+1:=fun b off e=>by have:=(bm.o.lt b (by rw[e];rfl)).1;have:=bc;omega
   obtain⟨w6,ai⟩:∃q,q=w5.setCell ⟨w.heap.size+1,9,none⟩ (.slice (some ⟨eb,0,none⟩) s.ps.length s.ps.length):=⟨_,rfl⟩;have aw:Hid (Kp [w.heap.size+1] w5 w6):=by rw[ai];exact(Kp.refl _ w5).set _ (.inl (by simp))
   have ah:Hid (Bk w6 (w.heap.size+1) 147 [.int .i64 day,.slice Al nm.length cl,.string pa,.int .i64 pc,.slice Ap s.ps.length cp,.slice Ac s.cap.length cc,.slice Av s.vot.length cv,.slice Aw F.length cw,.int .i64 0,.slice (some ⟨eb,0,none⟩) s.ps.length s.ps.length]):=by rw[ai];exact aa.o.set 9 _
   have ba:=zh (a9.o.kp aw.o (by simp));have aJ:=zh (StIn.kp a2.o aw.o (zw _) fp.o fc.o fv.o);have aW:Hid (InInt w6 Aw F):=InInt.same aV.o aw.o.size fun b off e h=>aw.o.block b h (by have:=aX b off e;simpa using this);have a1:Hid (RowB w6 eb s.ps.length fun p=>rq (Sh.ev s F p)):=by rw[ai];exact hR.far (p:=⟨w.heap.size+1,9,none⟩) (by simp;omega) _
   have aU:Hid (Below w.heap.size w w6):=by rw[ai];exact ao.o.setCell (p:=⟨w.heap.size+1,9,none⟩) (wD _) _
   have ki:=zh (Jb s.ps Ap cp pa w6 aJ.o.ps (by omega));have x9:=aa.o.cell (j:=9) rfl;have g9:=aa.o.frozen 9;have xl:=aa.o.lt;have y4:=ah.o.c4;have yl:=ah.o.lt;have q2:=ba.o.c2;have ql:=ba.o.lt;rw[ai]at y4 yl q2 ql ki;clear ae hx aE aB aq hR aw
   go_wp2_with fail
   refine ki.o.mono ?_;rintro e w6b ⟨i,rfl,br,be⟩;rw[<-ai]at be;obtain rfl:=be.symm;replace ai:=zh ai;clear ki x9 g9 xl y4 yl q2 ql aa a9 a2 aV ao;have x8:=ah.o.cell (j:=8) rfl;have g8:=ah.o.frozen 8;have xl:=ah.o.lt
   rcases br with⟨bq,aO⟩|⟨k,aL,rfl,aM,aN⟩
   .have ad:Hid (∀e w',e=.returned (.tuple #[.bool false,.int .i64 0])->Below w.heap.size w w'->OwPost l day nm pa pc w e w'):=fun e w' h1 h2=>⟨⟨s,false,0,h1,ak.o,.inr ⟨by rw[<-hF.o];exact a7.o,rfl,.inl ⟨aO,rfl⟩⟩⟩,h2⟩;replace aO:=zh aO;subst bq;go_wp2;go_ret2;exact ad.o _ _ rfl (aU.o.setCell (p:=⟨w.heap.size+1,8,none⟩) (wD _) _)
   have i0:(0:Int)<=(k:Int):=by omega
   have i1:¬(k:Int)<0:=by omega
   obtain⟨w7,aj⟩:∃q,q=w6.setCell ⟨w.heap.size+1,8,none⟩ (.int .i64 (k:Int)):=⟨_,rfl⟩;have aC:Hid (Kp [w.heap.size+1] w6 w7):=by rw[aj];exact(Kp.refl _ w6).set _ (.inl (by simp))
   have bg:Hid (Bk w7 (w.heap.size+1) 147 [.int .i64 day,.slice Al nm.length cl,.string pa,.int .i64 pc,.slice Ap s.ps.length cp,.slice Ac s.cap.length cc,.slice Av s.vot.length cv,.slice Aw F.length cw,.int .i64 (k:Int),.slice (some ⟨eb,0,none⟩) s.ps.length s.ps.length]):=by rw[aj];exact ah.o.set 8 _
   have a3:=zh (StIn.kp aJ.o aC.o (zw _) fp.o fc.o fv.o);have aH:Hid (InInt w7 Aw F):=InInt.same aW.o aC.o.size fun b off e h=>aC.o.block b h (by have:=aX b off e;simpa using this);have aA:Hid (RowB w7 eb s.ps.length fun p=>rq (Sh.ev s F p)):=by rw[aj];exact a1.o.far (p:=⟨w.heap.size+1,8,none⟩) (by simp;omega) _
   have al:Hid (Below w.heap.size w w7):=by rw[aj];exact aU.o.setCell (p:=⟨w.heap.size+1,8,none⟩) (wD _) _
   have af:Hid (Below w7.heap.size w7 (w7.alloc (.cells #[.func (.func 125) #[] #[],.func (.func 126) #[] #[],.func (.func 127) #[] #[]] 151))):=(zI _ w7).alloc (zB _) _
   have bp:ShortQ (Sh.ev s F k):=by
    obtain⟨D,hD⟩:=Sh.Pn hg.1 (by simpa using ht);exact hD.short k
   have kt:=zh (Rb w7)
   have kc:=zh (Ra (bg.o.below af.o) (Bk.new w7 _ _)
    (fun W hW=>test1 day pc k pa Al Ap Ac Av Aw (some ⟨eb,0,none⟩) nm.length s.ps.length s.cap.length s.vot.length s.ps.length cl cp cc cv cw s.ps.length F W ((aH.o.below af.o).below hW) (by omega))
    (fun W hW=>Yx day pc pa Al Ap Ac Av Aw nm.length s.ps.length s.cap.length s.vot.length F.length cl cp cc cv cw s.ps.length eb s.ps.length k (fun p=>Sh.ev s F p) W ((hE.o.below (al.o.trans (af.o.mono al.o.size))).below hW) aL (by omega) ((aA.o.below af.o aA.o.lt).below hW (zJ aA.o.lt af.o.size)) bp bu)
    (fun W hW=>Yy day pc pa Al Ap Ac Av Aw (some ⟨eb,0,none⟩) nm.length s.ps.length cl cp cc cv cw s.ps.length k s F W ((hE.o.below (al.o.trans (af.o.mono al.o.size))).below hW) aL ((a3.o.below af.o).below hW) (by omega) (by omega) ((aH.o.below af.o).below hW) (by omega) hg))
   have ad:Hid (∀e w',e=.returned (.tuple #[.bool (decide ((k:Int)∈F)||decide (0<=Is (Sh.ev s F k) (ofQ pc 100))||Co.rd (Co.VT s) (toN F) k != -1),.int .i64 0])->Below w.heap.size w w'->OwPost l day nm pa pc w e w'):=fun e w' h1 h2=>
    ⟨⟨s,_,0,h1,ak.o,.inr ⟨by rw[<-hF.o];exact a7.o,rfl,.inr ⟨k,aL,aM,aN,by rw[<-hF.o]⟩⟩⟩,h2⟩
   generalize (decide ((k:Int)∈F)||decide (0<=Is (Sh.ev s F k) (ofQ pc 100))||Co.rd (Co.VT s) (toN F) k != -1)=bb at kc ad;clear ah aJ aW a1 aC bg a3 aH aA;replace aM:=zh aM;replace aN:=zh aN;rw[aj]at kt;replace aj:=zh aj
   go_wp2_with fail
   refine kt.o.q fun w8 bd=>?_;rw[<-aj.o]at bd ⊢;obtain rfl:=bd.symm;clear kt x8 g8 xl
   go_wp2_with fail
   refine kc.o.q fun w9 a5=>?_;have bk:Hid (Below w.heap.size w w9):=(al.o.trans (af.o.mono al.o.size)).trans (a5.mono (zQ al.o.size af.o.size));clear kc a5;go_wp2;go_ret2;exact ad.o _ _ rfl bk.o
  rw[zE hg]at h5;subst h5;have aa:=zh (hx.o.below ae);have ao:Hid (Below w.heap.size w w5):=hB.o.trans (ae.mono hB.o.size);have ad:Hid (∀e w',e=.returned (.tuple #[.bool false,.int .i64 1])->Below w.heap.size w w'->OwPost l day nm pa pc w e w'):=fun e w' h1 h2=>OwPost.no ak.o (by unfold Jv;rw[<-hF];rw[zE hg]) (by decide) h1 h2;have x9:=aa.o.cell (j:=9) rfl;have g9:=aa.o.frozen 9;have xl:=aa.o.lt;clear ae hx;go_wp2;go_ret2;exact ad.o _ _ rfl (ao.o.setCell (p:=⟨w.heap.size+1,9,none⟩) (wD _) _)
def Ku(l:List Hd)(day:Int)(nm:List ByteArray)(pa:ByteArray)(pc:Int)(w:World)(e:Ending)(w':World):Prop :=
 (Valid l/\CW day nm pa pc=true->∃s b f,e=.returned (.tuple #[.bool b,.int .i64 f])/\AtS l day s/\OwnR s nm pa pc b f)/\(¬(Valid l/\CW day nm pa pc=true)->e=.returned (.tuple #[.bool false,.int .i64 1]))/\Below w.heap.size w w'
theorem Rv(l:List Hd)(A0:Option Addr)(cap:Nat)(day:Int)(nm:List ByteArray)(Al:Option Addr)(cl:Nat)(pa:ByteArray)(pc:Int)(w:World)(hE:Env w)(hl:InHd w A0 l)(hz:∀h∈l,HdSz h)(ar:l.length<=60)
 (hn:InStr w Al nm)(ak:∀x∈nm,x.size<=140737488355328)(ao:nm.length<=140737488355328)(zp:pa.size<=140737488355328):
 Calls prog 15 #[.slice A0 l.length cap,.int .i64 day,.slice Al nm.length cl,.string pa,.int .i64 pc] w (Ku l day nm pa pc w):=by
 have ap:Hid (Bk (w.alloc (.cells #[.int .i64 day,.slice Al nm.length cl,.string pa,.int .i64 pc] 102)) w.heap.size 102 [.int .i64 day,.slice Al nm.length cl,.string pa,.int .i64 pc]):=Bk.new w _ _;have ag:Hid (Below w.heap.size w (w.alloc (.cells #[.int .i64 day,.slice Al nm.length cl,.string pa,.int .i64 pc] 102))):=(zI _ w).alloc (zB _) _;have kv:=zh (Kn l A0 cap (w.alloc (.cells #[.int .i64 day,.slice Al nm.length cl,.string pa,.int .i64 pc] 102)) (hl.below ag.o) hz (by omega));have ah:Hid (∀e w',¬(Valid l/\CW day nm pa pc=true)->e=.returned (.tuple #[.bool false,.int .i64 1])->Below w.heap.size w w'->Ku l day nm pa pc w e w'):=fun e w' h1 h2 h3=>⟨fun h=>absurd h h1,fun _=>h2,h3⟩;replace hE:=zh hE;replace hl:=zh hl;replace hz:=zh hz;replace hn:=zh hn;replace ak:=zh ak;go_enter func15,ntmps15
 go_wp2_with fail
 refine kv.o.mono ?_;rintro e w2 ⟨r,rfl,hV,ai⟩;have ae:Hid (Below w.heap.size w w2):=ag.o.trans (ai.mono ag.o.size);have aa:=zh (ap.o.below ai);clear kv ai ap ag
 cases r with
 |false=>
  have hN:Hid (¬(Valid l/\CW day nm pa pc=true)):=fun h=>Bool.false_ne_true (hV.2 h.1);clear hV;go_wp2;go_ret2;exact ah.o _ _ hN.o rfl ae.o
 |true=>
  have am:Hid (Valid l):=hV.1 rfl;clear hV;have kq:=zh (Rr day nm pa pc Al cl w2 (hn.o.below ae.o) ak.o ao zp);obtain⟨d,hd⟩:∃q,q=CW day nm pa pc:=⟨_,rfl⟩;rw[<-hd]at kq;replace hd:=zh hd;have y0:=aa.o.c0;have y1:=aa.o.c1;have y2:=aa.o.c2;have y3:=aa.o.c3;have y9:=aa.o.lt
  go_wp2_with fail
  refine kq.o.q fun w3 aj=>?_;have ad:Hid (Below w.heap.size w w3):=ae.o.trans (aj.mono ae.o.size);have af:=zh (aa.o.below aj);clear kq aj aa ae y0 y1 y2 y3 y9
  cases d with
  |false=>
   have hN:Hid (¬(Valid l/\CW day nm pa pc=true)):=fun h=>by rw[<-hd.o]at h;exact Bool.false_ne_true h.2
   go_wp2;go_ret2;exact ah.o _ _ hN.o rfl ad.o
  |true=>
   have al:D7 day/\(1<=pc/\pc<=100):=by
    have h:=hd.o;unfold CW at h;simp only[Eq.comm (a:=true),zr,yC]at h;exact⟨h.2.1,h.2.2.2.2⟩
   have ko:=zh (Ru l A0 cap day nm Al cl pa pc w3 (hE.o.below ad.o) (hl.o.below ad.o) hz.o ar am.o al.1 (hn.o.below ad.o) ao al.2);clear al;have y0:=af.o.c0;have y1:=af.o.c1;have y2:=af.o.c2;have y3:=af.o.c3;have y9:=af.o.lt
   go_wp2_with fail
   refine ko.o.mono ?_;rintro e w4 ⟨⟨s,b,f,rfl,hA,hO⟩,an⟩;have aq:Hid (Below w.heap.size w w4):=ad.o.trans (an.mono ad.o.size);clear ko an y0 y1 y2 y3 y9;replace hA:=zh hA;replace hO:=zh hO;go_wp2;go_ret2;exact⟨fun _=>⟨s,b,f,rfl,hA.o,hO.o⟩,fun n=>absurd ⟨am.o,hd.o.symm⟩ n,aq.o⟩
def Ha(p:Int)(n:Nat):Int:=if 0<p then p*60/n else 0
theorem MK(x:Ct)(D:List Ct)(k:ByteArray×ByteArray):tot (x::D) k=(if x.1=k then x.2 else 0)+tot D k:=by
 unfold tot;rw[zk]
 by_cases e:x.1=k
 .rw[zF e,zF (zG e),xS,List.sum_cons]
 rw[zE e,zE (by rw[zH e];decide),Int.zero_add]
theorem Lq(D E:List Ct)(k:ByteArray×ByteArray):tot (D++E) k=tot D k+tot E k:=by
 unfold tot;rw[yQ,yD,List.sum_append]
theorem Jc(who:List ByteArray)(co:ByteArray)(p:Int)(n:Nat)(k:ByteArray×ByteArray):
 tot (BW who co p n) k=((who.filter fun x=>decide (x≠co)&&decide ((co,x)=k)).length:Int)*Ha p n:=by
 unfold Ha
 by_cases hp:0<p
 .rw [zF hp]
  induction who with
  |nil=>simp[BW,tot]
  |cons x who ih=>
   have e:BW (x::who) co p n=(if x≠co then [((co,x),p*60/(n:Int))] else [])++BW who co p n:=by
    unfold BW;rw[zk]
    by_cases c:x≠co
    .rw[zF c,zF (by rw[zG hp,zG c];rfl)];rfl
    rw[zE c,zE (by rw[zH c];simp)];rfl
   rw[e,Lq,ih,zk]
   by_cases c:x≠co
   .rw [zF c]
    by_cases d:(co,x)=k
    .rw[zF (by rw[zG c,zG d];rfl),MK,zF d,zZ]
     show p*60/(n:Int)+tot [] k+_=_
     rw[show tot [] k=0 from rfl,xH,Int.add_mul];omega
    rw[zE (by rw[zH d];simp),MK,zE d]
    show 0+tot [] k+_=_
    rw[show tot [] k=0 from rfl];omega
   rw[zE c,zE (by rw[zH c];simp)]
   show tot [] k+_=_
   rw[show tot [] k=0 from rfl,Int.zero_add]
 rw[zE hp,Int.mul_zero];have:BW who co p n=[]:=by unfold BW;rw[List.filter_eq_nil_iff.2 (fun x _=>by rw[zH hp];simp)];rfl
 rw[this];rfl
theorem Jd(who:List ByteArray)(co:ByteArray)(p:Int)(n:Nat)(k:ByteArray×ByteArray):
 (∃v,(k,v)∈BW who co p n)<->0<p/\∃x∈who,x≠co/\(co,x)=k:=by
 unfold BW;constructor
 .rintro⟨v,hv⟩;obtain⟨x,hx,e⟩:=List.mem_map.1 hv;obtain⟨h1,h2⟩:=List.mem_filter.1 hx;rw[zr]at h2;exact⟨zL h2.1,x,h1,zL h2.2,congrArg Prod.fst e⟩
 rintro⟨hp,x,hx,h2,h3⟩;exact⟨p*60/n,List.mem_map.2 ⟨x,List.mem_filter.2 ⟨hx,by rw[zG hp,zG h2];rfl⟩,by rw[h3]⟩⟩
theorem Rx{a b:Int}{n:Nat}(ha:0<=a)(hb:0<=b)(hn:n=1\/n=2\/n=3\/n=4\/n=5):Ha (a+b) n=Ha a n+Ha b n:=by
 unfold Ha
 rcases hn with rfl|rfl|rfl|rfl|rfl<;>(split<;>split<;>split<;>omega)
theorem Je(who:List ByteArray)(co:ByteArray){a b:Int}{n:Nat}(ha:0<=a)(hb:0<=b)(hn:n=1\/n=2\/n=3\/n=4\/n=5)(k:ByteArray×ByteArray):
 tot (BW who co (a+b) n) k=tot (BW who co a n) k+tot (BW who co b n) k/\((∃v,(k,v)∈BW who co (a+b) n)<->(∃v,(k,v)∈BW who co a n)\/∃v,(k,v)∈BW who co b n):=by
 refine⟨by rw[Jc,Jc,Jc,Rx ha hb hn,Int.mul_add],?_⟩;rw[Jd,Jd,Jd];constructor
 .rintro⟨h,q⟩
  by_cases c:0<a
  .exact .inl ⟨c,q⟩
  exact .inr ⟨by omega,q⟩
 rintro(⟨h,q⟩|⟨h,q⟩)
 .exact⟨by omega,q⟩
 exact⟨by omega,q⟩
structure Parts(h x y:Hd):Prop where
 sx:x.co=h.co/\x.ho=h.ho/\x.no=h.no/\x.pl=h.pl/\x.jo=h.jo/\x.fr=h.fr/\x.tt=h.tt
 sy:y.co=h.co/\y.ho=h.ho/\y.no=h.no/\y.pl=h.pl/\y.jo=h.jo/\y.fr=h.fr/\y.tt=h.tt
 c:h.ca=x.ca+y.ca/\0<=x.ca/\0<=y.ca
 v:h.vo=x.vo+y.vo/\0<=x.vo/\0<=y.vo
theorem Py{h:Hd}(hp:Proper h)(w:List ByteArray)(e:w=Cv h\/w=E8 h):w.length=1\/w.length=2\/w.length=3\/w.length=4\/w.length=5:=by
 have h4:=hp.1.2.2.2.2.2.1
 have hC:(Cv h).length=1\/(Cv h).length=2\/(Cv h).length=3\/(Cv h).length=4\/(Cv h).length=5:=by
  unfold Cv
  split
  .rw[zZ];omega
  exact .inl rfl
 rcases e with rfl|rfl
 .exact hC
 unfold E8
 split
 .exact hC
 exact .inl rfl
theorem Do(who:List ByteArray)(co:ByteArray)(p:Int):Lb who co p=BW who co p who.length:=rfl
theorem Parts.addC{h x y:Hd}(q:Parts h x y)(hp:Proper h)(day:Int)(k:ByteArray×ByteArray):
 tot (Rg.addC day h) k=tot (Rg.addC day x) k+tot (Rg.addC day y) k/\((∃v,(k,v)∈Rg.addC day h)<->(∃v,(k,v)∈Rg.addC day x)\/∃v,(k,v)∈Rg.addC day y):=by
 obtain⟨a1,a2,a3,a4,a5,a6,a7⟩:=q.sx;obtain⟨b1,b2,b3,b4,b5,b6,b7⟩:=q.sy;have wx:Cv x=Cv h:=by unfold Cv;rw[a3,a2,a5]
 have wy:Cv y=Cv h:=by unfold Cv;rw[b3,b2,b5]
 have rx:BC x day<->BC h day:=by unfold BC;rw[a6,a7]
 have ry:BC y day<->BC h day:=by unfold BC;rw[b6,b7]
 unfold Rg.addC
 by_cases r:BC h day
 .rw[zF r,zF (rx.2 r),zF (ry.2 r),wx,wy,a1,b1,q.c.1,Do,Do,Do];exact Je _ _ q.c.2.1 q.c.2.2 (Py hp _ (.inl rfl)) k
 rw[zE r,zE (fun c=>r (rx.1 c)),zE (fun c=>r (ry.1 c))];exact⟨rfl,by simp⟩
theorem Parts.addV{h x y:Hd}(q:Parts h x y)(hp:Proper h)(day:Int)(k:ByteArray×ByteArray):
 tot (Rg.addV day h) k=tot (Rg.addV day x) k+tot (Rg.addV day y) k/\((∃v,(k,v)∈Rg.addV day h)<->(∃v,(k,v)∈Rg.addV day x)\/∃v,(k,v)∈Rg.addV day y):=by
 obtain⟨a1,a2,a3,a4,a5,a6,a7⟩:=q.sx;obtain⟨b1,b2,b3,b4,b5,b6,b7⟩:=q.sy;have wx:E8 x=E8 h:=by unfold E8 Cv;rw[a3,a2,a5,a4]
 have wy:E8 y=E8 h:=by unfold E8 Cv;rw[b3,b2,b5,b4]
 have rx:BC x day<->BC h day:=by unfold BC;rw[a6,a7]
 have ry:BC y day<->BC h day:=by unfold BC;rw[b6,b7]
 unfold Rg.addV
 by_cases r:BC h day
 .rw[zF r,zF (rx.2 r),zF (ry.2 r),wx,wy,a1,b1,q.v.1,Do,Do,Do];exact Je _ _ q.v.2.1 q.v.2.2 (Py hp _ (.inr rfl)) k
 rw[zE r,zE (fun c=>r (rx.1 c)),zE (fun c=>r (ry.1 c))];exact⟨rfl,by simp⟩
theorem Jf(g:Hd->List Ct)(A B:List Hd)(h:Hd)(k:ByteArray×ByteArray):tot ((A++h::B).flatMap g) k=tot (A.flatMap g) k+(tot (g h) k+tot (B.flatMap g) k):=by
 rw[List.flatMap_append,List.flatMap_cons,Lq,Lq]
theorem Jg(g:Hd->List Ct)(A B:List Hd)(h:Hd)(k:ByteArray×ByteArray):(∃v,(k,v)∈(A++h::B).flatMap g)<->(∃v,(k,v)∈A.flatMap g)\/(∃v,(k,v)∈g h)\/∃v,(k,v)∈B.flatMap g:=by
 rw[List.flatMap_append,List.flatMap_cons];simp only[yc,exists_or]
theorem Parts.nms{h x y:Hd}(q:Parts h x y):nms x=nms h/\nms y=nms h:=by
 obtain⟨a1,a2,a3,a4,a5,_⟩:=q.sx;obtain⟨b1,b2,b3,b4,b5,_⟩:=q.sy;unfold Rg.nms;rw[a1,a2,a3,a4,a5,b1,b2,b3,b4,b5];exact⟨rfl,rfl⟩
theorem Parts.mem{A B:List Hd}{h x y:Hd}(q:Parts h x y)(z:ByteArray):z∈D8 (A++h::B)<->z∈D8 (A++x::(B++[y])):=by
 unfold D8;rw[List.flatMap_append,List.flatMap_cons,List.flatMap_append,List.flatMap_cons,List.flatMap_append,List.flatMap_singleton,q.nms.1,q.nms.2];simp only[yc];constructor
 .rintro(h|h|h)
  .exact .inl h
  .exact .inr (.inl h)
  exact .inr (.inr (.inl h))
 rintro(h|h|h|h)
 .exact .inl h
 .exact .inr (.inl h)
 .exact .inr (.inr h)
 exact .inr (.inl h)
theorem AtS.split{A B:List Hd}{h x y:Hd}(q:Parts h x y)(hp:Proper h){day:Int}{s t:SR}(hs:AtS (A++h::B) day s)(ht:AtS (A++x::(B++[y])) day t):s=t:=by
 have d:s.ps=t.ps:=hs.1.unique ht.1 q.mem
 have key:∀g:Hd->List Ct,(∀k,tot (g h) k=tot (g x) k+tot (g y) k/\((∃v,(k,v)∈g h)<->(∃v,(k,v)∈g x)\/∃v,(k,v)∈g y)) ->
  (∀k,(∃v,(k,v)∈(A++h::B).flatMap g)<->∃v,(k,v)∈(A++x::(B++[y])).flatMap g)/\∀k,tot ((A++h::B).flatMap g) k=tot ((A++x::(B++[y])).flatMap g) k:=by
  intro g hg;constructor
  .intro k;rw[Jg,Jg,Jg,(hg k).2,List.flatMap_nil];constructor
   .rintro(h|(h|h)|h)
    .exact .inl h
    .exact .inr (.inl h)
    .exact .inr (.inr (.inr (.inl h)))
    exact .inr (.inr (.inl h))
   rintro(h|h|h|h|⟨v,hv⟩)
   .exact .inl h
   .exact .inr (.inl (.inl h))
   .exact .inr (.inr h)
   .exact .inr (.inl (.inr h))
   exact absurd hv yZ
  intro k;rw[Jf,Jf,Jf,(hg k).1,List.flatMap_nil,show tot [] k=0 from rfl];omega
 have h1:=key (Rg.addC day) fun k=>q.addC hp day k;have h2:=key (Rg.addV day) fun k=>q.addV hp day k;obtain⟨ps,cap,vot⟩:=s;obtain⟨qs,cap',vot'⟩:=t;obtain rfl:ps=qs:=d;have e1:=hs.2.1.unique ht.2.1 h1.1 h1.2;have e2:=hs.2.2.unique ht.2.2 h2.1 h2.2;rw[show cap=cap' from e1,show vot=vot' from e2]
theorem Pz{l:List Hd}:(∀k (h:k<l.length),IS l k h)<->(∀h∈l,Proper h)/\(l.map Hd.id).Nodup:=by
 constructor
 .intro q;refine⟨fun h hh=>by obtain⟨i,hi,rfl⟩:=zi hh;exact(q i hi).1,?_⟩;rw[List.nodup_iff_pairwise_ne,List.pairwise_iff_getElem];intro i j hi hj d e;rw[zW]at hi hj;rw[yJ,yJ]at e;refine(q j hj).2 ?_;rw[<-e];exact List.mem_map.2 ⟨l[i],List.mem_of_getElem (i:=i) (h:=by rw[xI];omega) (by rw[vI]),rfl⟩
 rintro⟨q,n⟩ k hk;refine⟨q _ (zO hk),fun c=>?_⟩;obtain⟨z,hz,e⟩:=List.mem_map.1 c;obtain⟨i,hi,rfl⟩:=zi hz;rw[xI]at hi;rw[vI]at e;rw[List.nodup_iff_pairwise_ne,List.pairwise_iff_getElem]at n;exact n i k (by rw[zW];omega) (by rw[zW];exact hk) (by omega) (by rw[yJ,yJ];exact e)
theorem Proper.part{h x:Hd}(hp:Proper h)(e:x.co=h.co/\x.ho=h.ho/\x.no=h.no/\x.pl=h.pl/\x.jo=h.jo/\x.fr=h.fr/\x.tt=h.tt)(hi:An x.id=true)(hc:CV x.ca)(hv:CV x.vo):Proper x:=by
 obtain⟨id,co,ho,no,pl,jo,ca,vo,fr,tt⟩:=h;obtain⟨id',co',d,no',pl',jo',ca',vo',fr',tt'⟩:=x;obtain⟨e1,e2,e3,e4,e5,e6,e7⟩:=e;simp only[]at e1 e2 e3 e4 e5 e6 e7;subst e1;subst e2;subst e3;subst e4;subst e5;subst e6;subst e7;obtain⟨h1,h2,h3⟩:=hp;exact⟨⟨hi,h1.2⟩,h2,h3.1,h3.2.1,hc,hv,h3.2.2.2.2⟩
theorem Fdq(f:Hd->Int)(A B:List Hd)(day:Int)(c:ByteArray):AY f (A++B) day c=AY f A day c+AY f B day c:=by
 unfold AY;rw[yQ,yD,List.sum_append]
theorem Jh(f:Hd->Int)(h:Hd)(day:Int)(c:ByteArray):AY f [h] day c=if BC h day/\h.co=c then f h else 0:=by
 unfold AY
 by_cases e:BC h day/\h.co=c
 .rw[zF e,zk,zF (by rw[zG e.1,zG e.2];rfl)];simp
 rw[zE e,zk,zE (by intro q;rw[zr]at q;exact e ⟨zL q.1,zL q.2⟩)];simp
theorem Ji(f:Hd->Int){A B:List Hd}{h x y:Hd}(q:Parts h x y)(e:f h=f x+f y)(day:Int)(c:ByteArray):AY f (A++x::(B++[y])) day c=AY f (A++h::B) day c:=by
 rw[show A++x::(B++[y])=A++([x]++(B++[y])) from rfl,show A++h::B=A++([h]++B) from rfl,Fdq,Fdq,Fdq,Fdq,Fdq,Jh,Jh,Jh];obtain⟨a1,_,_,_,_,a6,a7⟩:=q.sx;obtain⟨b1,_,_,_,_,b6,b7⟩:=q.sy;have rx:(BC x day/\x.co=c)<->(BC h day/\h.co=c):=by unfold BC;rw[a6,a7,a1]
 have ry:(BC y day/\y.co=c)<->(BC h day/\h.co=c):=by unfold BC;rw[b6,b7,b1]
 by_cases r:BC h day/\h.co=c
 .rw[zF (rx.2 r),zF (ry.2 r),zF r];omega
 rw[zE (fun k=>r (rx.1 k)),zE (fun k=>r (ry.1 k)),zE r];omega
theorem Valid.split{A B:List Hd}{h x y:Hd}(q:Parts h x y)(hv:Valid (A++h::B))(hx:x.id=h.id)(hy:An y.id=true)(hn:y.id∉(A++h::B).map Hd.id)(hl:(A++h::B).length<400):Valid (A++x::(B++[y])):=by
 obtain⟨h1,h2,h3,h4⟩:=hv;obtain⟨p1,p2⟩:=Pz.1 h1;have hp:=p1 h (by simp);have aa:=hp.2.2.2.2.1;have ad:=hp.2.2.2.2.2.1;have qc:=q.c;have qv:=q.v;have px:Proper x:=hp.part q.sx (by rw[hx];exact hp.1.1) (by unfold CV at *;omega) (by unfold CV at *;omega);have py:Proper y:=hp.part q.sy hy (by unfold CV at *;omega) (by unfold CV at *;omega)
 have mem:∀z,z∈A++x::(B++[y])->z∈A++h::B\/z=x\/z=y:=fun z hz=>by
  rw[yc,xC,yc,xE]at hz;rw[yc,xC]
  rcases hz with c|c|c|c
  .exact .inl (.inl c)
  .exact .inr (.inl c)
  .exact .inl (.inr (.inr c))
  exact .inr (.inr c)
 have hh:h∈A++h::B:=by simp
 refine⟨Pz.2 ⟨fun z hz=>?_,?_⟩,by simp only[zX,zZ,yR]at hl ⊢;omega,fun ps d=>?_,?_⟩
 .rcases mem z hz with c|rfl|rfl
  .exact p1 z c
  .exact px
  exact py
 .have e:(A++x::(B++[y])).map Hd.id=(A++h::B).map Hd.id++[y.id]:=by simp[hx]
  rw[e];exact List.nodup_append.2 ⟨p2,by simp,fun a ha b hb=>by rw[List.mem_singleton.1 hb];exact fun c=>hn (c▸ha)⟩
 .exact h3 ps ⟨d.1,fun z=>(d.2 z).trans (q.mem z).symm⟩
 have bear:∀z∈A++h::B,DN (A++x::(B++[y])) z.fr:=fun z hz g hg=>by
  rw[Ji Hd.ca q q.c.1,Ji Hd.vo q q.v.1]
  rcases mem g hg with c|rfl|rfl
  .exact h4 z hz g c
  .rw[q.sx.1];exact h4 z hz h hh
  rw[q.sy.1];exact h4 z hz h hh
 intro z hz
 rcases mem z hz with c|rfl|rfl
 .exact bear z c
 .rw[q.sx.2.2.2.2.2.1];exact bear h hh
 rw[q.sy.2.2.2.2.2.1];exact bear h hh
def hA:List Hd:=[⟨⟨#[104,49]⟩,⟨#[97]⟩,⟨#[112]⟩,⟨#[]⟩,⟨#[]⟩,[],60,60,0,-1⟩,⟨⟨#[104,50]⟩,⟨#[98]⟩,⟨#[97]⟩,⟨#[]⟩,⟨#[]⟩,[],50,50,0,-1⟩,⟨⟨#[104,51]⟩,⟨#[97]⟩,⟨#[98]⟩,⟨#[]⟩,⟨#[]⟩,[],40,40,0,-1⟩]
def lA:List Lk:=[(0,1,false,⟨#[50]⟩,⟨#[53]⟩),(0,2,false,⟨#[51]⟩,⟨#[53]⟩),(1,0,false,⟨#[49]⟩,⟨#[50]⟩)]
def pA:List ByteArray:=[⟨#[97]⟩,⟨#[98]⟩,⟨#[112]⟩]
def sA:SR:=⟨pA,lA,lA⟩
def dA:List Ct:=[((⟨#[97]⟩,⟨#[112]⟩),3600),((⟨#[98]⟩,⟨#[97]⟩),3000),((⟨#[97]⟩,⟨#[98]⟩),2400)]
theorem XH:hA.flatMap (addC 0)=dA:=by decide +kernel
theorem XI:hA.flatMap (addV 0)=dA:=by decide +kernel
theorem P0:IsLinks pA dA lA:=by
 refine⟨?_,fun x hx=>?_,fun i j hi hj hv=>?_⟩
 .simp[lA,Rise]
 .simp only[lA,xC,yZ,wk]at hx
  rcases hx with rfl|rfl|rfl
  .exact⟨0,1,by decide,by decide,rfl,rfl,⟨2400,by simp[pA,dA]⟩,by decide +kernel⟩
  .exact⟨0,2,by decide,by decide,rfl,rfl,⟨3600,by simp[pA,dA]⟩,by decide +kernel⟩
  exact⟨1,0,by decide,by decide,rfl,rfl,⟨3000,by simp[pA,dA]⟩,by decide +kernel⟩
 obtain⟨v,hv⟩:=hv;have d:i=0\/i=1\/i=2:=by have:i<3:=hi;omega
 have h:j=0\/j=1\/j=2:=by have:j<3:=hj;omega
 rcases d with rfl|rfl|rfl<;>rcases h with rfl|rfl|rfl<;>first
  |(exfalso;simp[pA,dA]at hv;done)
  |exact⟨_,zf,rfl,rfl⟩
  |exact⟨_,zY _ zf,rfl,rfl⟩
  |exact⟨_,zY _ (zY _ zf),rfl,rfl⟩
theorem UE:AtS hA 0 sA:=by
 refine⟨⟨by decide +kernel,fun x=>?_⟩,by rw[XH];exact P0,by rw[XI];exact P0⟩;have e:D8 hA=[⟨#[97]⟩,⟨#[112]⟩,⟨#[98]⟩,⟨#[97]⟩,⟨#[97]⟩,⟨#[98]⟩]:=by decide +kernel
 rw[e];simp only[sA,pA,xC,yZ,wk];constructor
 .rintro(h|h|h)<;>simp[h]
 rintro(h|h|h|h|h|h)<;>simp[h]
theorem P3:Valid hA:=by
 refine⟨by decide +kernel,by decide,fun ps h=>?_,by decide +kernel⟩;have e:ps=pA:=h.unique UE.1 fun _=>wH;rw[e];decide
theorem G6:Ak sA=true:=by decide +kernel
theorem UF:Sh.AX sA.ps.length (Ah sA) (toN [2])=false:=Sh.G0 [2] G6 (by decide)
theorem O5:AZ sA.ps.length [2]=true:=by decide +kernel
theorem Y7:Sh.Ag lA=[(0,1,2/5),(0,2,3/5),(1,0,1/2)]:=by decide +kernel
theorem XJ:Sh.ev sA [2] 0=ofQ 3 4/\Sh.ev sA [2] 1=ofQ 3 8:=by
 have h:=Sh.Oo (F:=[2]) G6 UF;have e1:sA.ps.length=3:=rfl;have e2:toN [2]=[2]:=rfl;have e3:sA.cap=lA:=rfl;rw[e1,e2,e3,Y7]at h;have h3:=h.listed 2 (by simp);have h0:=h.sum 0 (by omega) (by simp);have h1:=h.sum 1 (by omega) (by simp);simp[Sh.Ao]at h0 h1;have a0:ofQ 3 4=3/4:=by decide +kernel
 have a1:ofQ 3 8=3/8:=by decide +kernel
 rw[a0,a1];refine⟨?_,?_⟩<;>grind
theorem YY:Co.VT sA=[(0,1,2400),(0,2,3600),(1,0,3000)]:=by kernel_rfl
theorem XK:Co.rd (Co.VT sA) (toN [2]) 0=1/\Co.rd (Co.VT sA) (toN [2]) 1=-1:=by
 rw[YY,show toN [2]=[2] from rfl];refine⟨Co.Ue (.inr ⟨1,rfl,by decide,fun j h=>?_⟩),Co.Ue (.inl ⟨rfl,fun k=>?_⟩)⟩
 .obtain rfl:j=0:=by omega
  decide
 cases hc:Co.inR [(0,1,2400),(0,2,3600),(1,0,3000)] [2] k 1
 .rfl
 have h:=Co.QV (n:=3) (S:=fun q=>decide (q≠1)) (V:=[(0,1,2400),(0,2,3600),(1,0,3000)]) (F:=[2]) (by unfold Co.VIn;decide) (by decide) (by decide) k 1 (by decide) hc;simp at h
theorem UG:CQ [⟨#[112]⟩] sA.ps sA.ps.length=[2]:=by decide +kernel
theorem Y8{b:Bool}{f:Int}(h:OwnR sA [⟨#[112]⟩] ⟨#[98]⟩ 38 b f):b=false/\f=0:=by
 have e0:Jv sA [2]=0:=by
  unfold Jv;rw[zF ⟨G6,O5⟩,zE (by rw[UF];decide)]
 have k:OwnR sA [⟨#[112]⟩] ⟨#[98]⟩ 38 false 0:=by
  refine .inr ⟨by rw[UG];exact e0,rfl,.inr ⟨1,by decide,rfl,fun j hj h=>?_,?_⟩⟩
  .obtain rfl:j=0:=by omega
   exact(by decide +kernel:(⟨#[97]⟩:ByteArray)≠⟨#[98]⟩)
  rw[UG,XJ.2,XK.2];decide +kernel
 exact h.unique k
theorem Ry(l m:List ByteArray)(A B:Option Addr)(c d:Nat)(w:World)(hl:InStr w A l)(hm:InStr w B m)(au:l.length<=140737488355328)(av:m.length<=140737488355328):
 Calls prog 19 #[.slice A l.length c,.slice B m.length d] w fun e w'=>e=.returned (.bool (decide (l=m)))/\Below w.heap.size w w':=by
 have ai:Hid (l.length≠m.length->decide (l=m)=false):=fun n=>zH fun e=>n (by rw[e]);have am:Hid (∀k (h:k<l.length) (h2:k<m.length),l[k]≠m[k]->decide (l=m)=false):=fun k h h2 n=>zH fun e=>n (by subst e;rfl);have aj:Hid (l.length=m.length->(∀k (h:k<l.length) (h2:k<m.length),l[k]=m[k])->decide (l=m)=true):=fun e q=>zG (List.ext_getElem e q);generalize decide (l=m)=R at ai am aj;replace hl:=zh hl;replace hm:=zh hm
 by_cases hlen:l.length=m.length
 .have m1:((l.length:Int) != (m.length:Int))=false:=bne_eq_false_iff_eq.2 (by omega);have m2:l.length=m.length:=hlen;obtain⟨n,hn⟩:∃n,n=l.length:=⟨_,rfl⟩;have ak:n=m.length:=by omega
  have an:=zh (aj.o hlen);have aq:Hid (n=l.length):=hn;have aw:Hid (n=m.length):=ak;have az:n<=140737488355328:=by omega
  rw[<-hn,<-ak];clear m1 m2 hlen hn ak ai aj au av;go_enter func19,ntmps19;go_wp2
  go_loopw [5] (fun i wr=>∃k:Nat,k<=n/\i=.int .i64 (k:Int)/\Hid (Below w.heap.size w wr)/\Hid (∀j (h:j<l.length) (h2:j<m.length),j<k->l[j]=m[j])) (fun i _=>n-(intOf i).toNat)
  case atStart=>exact⟨0,zS _,rfl,zI _ _,fun j _ _ h=>absurd h (yB _)⟩
  case round=>
   obtain⟨k,hk,rfl,hB,hI⟩:=hrel;obtain⟨wz,rfl⟩:∃z,z=wr:=⟨_,rfl⟩
   by_cases hlt:k<n
   .have ad:k<l.length:=by have:=aq.o;omega
    have ae:k<m.length:=by have:=aw.o;omega
    obtain⟨b,off,rfl,ao,ap⟩:=hl.o (by omega);obtain⟨b2,off2,rfl,af,ag⟩:=hm.o (by omega);have e0:=(hB.o.cell (p:=⟨b,_,none⟩) ao).trans (ap k ad);have e1:=(hB.o.cell (p:=⟨b2,_,none⟩) af).trans (ag k ae);have ay:b<wz.heap.size:=zJ ao hB.o.size;have ax:b2<wz.heap.size:=zJ af hB.o.size;have al:Hid (∀q,Below w.heap.size w (wz.drewN q)):=fun q=>hB.o.trans ⟨rfl,rfl,rfl,zB _,fun _ _=>rfl⟩;have aa:=am.o k ad ae
    have ah:Hid (l[k]=m[k]->∀j (h:j<l.length) (h2:j<m.length),j<k+1->l[j]=m[j]):=fun h j hj ar h2=>by
     by_cases e:j=k
     .subst e;exact h
     exact hI.o j hj ar (by omega)
    have k0:(0:Int)<=(k:Int):=by omega
    have k1:(k:Int)<(n:Int):=by omega
    clear ap ag;generalize l[k]=x at e0 aa ah;generalize m[k]=y at e1 aa ah;replace ad:=zh ad;replace ae:=zh ae
    by_cases c:x=y
    .have m1:(x.toList==y.toList)=true:=(@BB x y).trans (zG c);have hN:=zh (ah.o c);replace c:=zh c;replace aa:=zh aa;go_wp2
     go_quiet (fail)
     go_wp2;exact⟨⟨k+1,by omega,by go_num,al.o _,hN⟩,by simp only[intOf];omega⟩
    have hQ:=zh (aa c);have m1:(x.toList==y.toList)=false:=(@BB x y).trans (zH c);replace c:=zh c;replace aa:=zh aa;go_wp2
    go_quiet (fail)
    go_wp2;go_ret;exact⟨Ad hQ.o.symm,al.o _⟩
   obtain rfl:k=n:=by omega
   have hQ:=zh (an.o fun j h h2=>hI.o j h h2 (by have:=aq.o;omega));go_wp2;go_ret;exact⟨Ad hQ.o.symm,hB.o⟩
 have hQ:=zh (ai.o hlen);have m1:((l.length:Int) != (m.length:Int))=true:=bne_iff_ne.2 (by omega);go_enter func19,ntmps19;go_wp2;go_ret;exact⟨Ad hQ.o.symm,zI _ _⟩
theorem UH(q:Rat):∃g n d,qv q=.agg #[.bool g,.string n,.string d]:=⟨_,_,_,rfl⟩
theorem G7(m n:Int)(w:World)(hE:Env w)(ai:-9223372036854775808<=m)(aj:m<=9223372036854775807)(ak:-9223372036854775808<=n)(al:n<=9223372036854775807)(h0:n≠0):
 Calls prog 20 #[.int .i64 m,.int .i64 n] w fun e w'=>e=.returned (qv (ofQ m n))/\Below w.heap.size w w':=by
 obtain⟨g,x,d,q0⟩:=UH (ofQ m n);have ad:Hid (Below w.heap.size w (w.alloc (.cells #[.bool false,.string ⟨#[]⟩,.string ⟨#[]⟩] 48))):=(zI _ w).alloc (zB _) _;have af:Hid (Bk (w.alloc (.cells #[.bool false,.string ⟨#[]⟩,.string ⟨#[]⟩] 48)) w.heap.size 48 [.bool false,.string ⟨#[]⟩,.string ⟨#[]⟩]):=Bk.new w _ _
 have ko:Hid (Calls prog 56 #[.int .i64 m,.int .i64 n] (w.alloc (.cells #[.bool false,.string ⟨#[]⟩,.string ⟨#[]⟩] 48)) fun e w'=>e=.returned (.tuple #[.agg #[.bool g,.string x,.string d],.int .i64 0])/\Below (w.alloc (.cells #[.bool false,.string ⟨#[]⟩,.string ⟨#[]⟩] 48)).heap.size (w.alloc (.cells #[.bool false,.string ⟨#[]⟩,.string ⟨#[]⟩] 48)) w'):=by
  have h:=Fm m n ai aj ak al h0 _ (hE.below ad.o);rw[q0]at h;exact h
 rw[q0];clear hE;go_enter func20,ntmps20
 go_wp2_with fail
 refine ko.o.q fun w2 hb=>?_;have ag:=ad.t hb;have aa:=zh (af.o.below hb);clear hb ad af ko;have r0:=aa.o.c0;have r1:=aa.o.c1;have r2:=aa.o.c2;have f0:=aa.o.frozen 0;have f1:=aa.o.frozen 1;have f2:=aa.o.frozen 2;have r9:=aa.o.lt
 have ah:Hid (Below w.heap.size w ((((w2.setCell ⟨w.heap.size,0,none⟩ (.bool g)).setCell ⟨w.heap.size,1,none⟩ (.string x)).setCell ⟨w.heap.size,2,none⟩ (.string d)).alloc (.cells #[.bool g,.string x,.string d] 48))):=by
  have h:=((ag.o.setCell (p:=⟨w.heap.size,0,none⟩) (zB _) (.bool g)).setCell (p:=⟨w.heap.size,1,none⟩) (zB _) (.string x)).setCell (p:=⟨w.heap.size,2,none⟩) (zB _) (.string d);exact h.alloc h.size _
 have ae:Hid (Bk ((((w2.setCell ⟨w.heap.size,0,none⟩ (.bool g)).setCell ⟨w.heap.size,1,none⟩ (.string x)).setCell ⟨w.heap.size,2,none⟩ (.string d)).alloc (.cells #[.bool g,.string x,.string d] 48)) w.heap.size 48 [.bool g,.string x,.string d]):=(((aa.o.set 0 (.bool g)).set 1 (.string x)).set 2 (.string d)).alloc _;go_wp2
 (try simp only[Exit.inBlock,Exit.then])
 have s0:=ae.o.c0;have s1:=ae.o.c1;have s2:=ae.o.c2;have s9:=ae.o.lt;refine zo (v:=.agg #[.bool g,.string x,.string d]) (by simp[results,results20,go_sem,s0,s1,s2]) rfl ⟨rfl,ah.o⟩
theorem UI{W:World}{b:Nat}{t:TypeId}{x y z:List Value}(h:Bk W b t (x++(y++z)))(lx:x.length=10)(ly:y.length=10):
 (∀i v,x[i]? = some v->W.cell? ⟨b,0+0*10+i,none⟩=some v)/\(∀i v,y[i]? = some v->W.cell? ⟨b,0+1*10+i,none⟩=some v)/\∀i v,z[i]? = some v->W.cell? ⟨b,0+2*10+i,none⟩=some v:=by
 have lt:∀{l:List Value} {i:Nat} {v:Value},l[i]? = some v->i<l.length:=fun h=>(List.getElem?_eq_some_iff.1 h).1;refine⟨fun i v hv=>?_,fun i v hv=>?_,fun i v hv=>?_⟩
 .rw[show 0+0*10+i=i by omega];exact h.cell (by rw[xw (lt hv)];exact hv)
 .have:=lt hv;rw[show 0+1*10+i=10+i by omega];exact h.cell (by rw[List.getElem?_append_right (by omega),xw (by omega),lx,show 10+i-10=i by omega];exact hv)
 rw[show 0+2*10+i=20+i by omega];exact h.cell (by rw[List.getElem?_append_right (by omega),List.getElem?_append_right (by omega),lx,ly,show 20+i-10-10=i by omega];exact hv)
theorem YZ{W:World}{b:Nat}(h:Bk W b 29 [.string ⟨#[104,49]⟩,.string ⟨#[97]⟩,.string ⟨#[112]⟩,.string ⟨#[]⟩,.string ⟨#[]⟩,.slice none 0 0,.int .i64 60,.int .i64 60,.int .i64 0,.int .i64 (-1),.string ⟨#[104,50]⟩,.string ⟨#[98]⟩,.string ⟨#[97]⟩,.string ⟨#[]⟩,.string ⟨#[]⟩,.slice none 0 0,.int .i64 50,.int .i64 50,.int .i64 0,.int .i64 (-1),.string ⟨#[104,51]⟩,.string ⟨#[97]⟩,.string ⟨#[98]⟩,.string ⟨#[]⟩,.string ⟨#[]⟩,.slice none 0 0,.int .i64 40,.int .i64 40,.int .i64 0,.int .i64 (-1)]):InHd W (some ⟨b,0,none⟩) hA:=fun _=>by
 obtain⟨h0,h1,h2⟩:=UI (x:=hdV (hA[0]'(by decide)) none 0) (y:=hdV (hA[1]'(by decide)) none 0) (z:=hdV (hA[2]'(by decide)) none 0) h rfl rfl;refine⟨b,0,rfl,h.lt,fun j hj=>⟨none,0,?_,?_⟩⟩
 .match j,hj with
  |0,_=>exact fun h=>absurd h (wB 0)
  |1,_=>exact fun h=>absurd h (wB 0)
  |2,_=>exact fun h=>absurd h (wB 0)
  |j+3,hj=>exact absurd hj (by simp[hA])
 match j,hj with
 |0,_=>exact h0
 |1,_=>exact h1
 |2,_=>exact h2
 |j+3,hj=>exact absurd hj (by simp[hA])
theorem Y9:∀h∈hA,HdSz h:=by
 intro h hh;simp only[hA,xC,yZ,wk]at hh
 rcases hh with rfl|rfl|rfl<;>exact⟨by decide,by decide,by decide,by decide,by decide,by decide,fun x hx=>absurd hx (yZ),by decide,by decide,by decide,by decide⟩
theorem Wi:CW 0 [⟨#[112]⟩] ⟨#[98]⟩ 38=true:=by decide +kernel
theorem YA{W:World}{b:Nat}{l:List ByteArray}(h:Bk W b 9 (l.map .string)):InStr W (some ⟨b,0,none⟩) l:=XF h
theorem YB{W:World}{b:Nat}{l:List Int}(h:Bk W b 3 (l.map (.int .i64))):InInt W (some ⟨b,0,none⟩) l:=fun _=>⟨b,0,rfl,h.lt,fun j hj=>by
 rw[yS];exact h.cell (by simp[hj])⟩
theorem w11Chain_any(w:World)(hE:Env w):Calls prog 5 #[] w fun e w'=>e=.returned (.bool true)/\Below w.heap.size w w':=by
 have ar:Hid (Below w.heap.size w (w.alloc (.cells #[.string ⟨#[104,49]⟩,.string ⟨#[97]⟩,.string ⟨#[112]⟩,.string ⟨#[]⟩,.string ⟨#[]⟩,.slice none 0 0,.int .i64 60,.int .i64 60,.int .i64 0,.int .i64 (-1),.string ⟨#[104,50]⟩,.string ⟨#[98]⟩,.string ⟨#[97]⟩,.string ⟨#[]⟩,.string ⟨#[]⟩,.slice none 0 0,.int .i64 50,.int .i64 50,.int .i64 0,.int .i64 (-1),.string ⟨#[104,51]⟩,.string ⟨#[97]⟩,.string ⟨#[98]⟩,.string ⟨#[]⟩,.string ⟨#[]⟩,.slice none 0 0,.int .i64 40,.int .i64 40,.int .i64 0,.int .i64 (-1)] 29))):=(zI _ w).alloc (zB _) _;have aB:Hid (InHd (w.alloc (.cells #[.string ⟨#[104,49]⟩,.string ⟨#[97]⟩,.string ⟨#[112]⟩,.string ⟨#[]⟩,.string ⟨#[]⟩,.slice none 0 0,.int .i64 60,.int .i64 60,.int .i64 0,.int .i64 (-1),.string ⟨#[104,50]⟩,.string ⟨#[98]⟩,.string ⟨#[97]⟩,.string ⟨#[]⟩,.string ⟨#[]⟩,.slice none 0 0,.int .i64 50,.int .i64 50,.int .i64 0,.int .i64 (-1),.string ⟨#[104,51]⟩,.string ⟨#[97]⟩,.string ⟨#[98]⟩,.string ⟨#[]⟩,.string ⟨#[]⟩,.slice none 0 0,.int .i64 40,.int .i64 40,.int .i64 0,.int .i64 (-1)] 29)) (some ⟨w.heap.size,0,none⟩) hA):=YZ (Bk.new w _ _);have k1:=zh (UD hA (some ⟨w.heap.size,0,none⟩) 3 0 _ (hE.below ar.o) aB.o Y9 (by decide));rw[show hA.length=3 from rfl]at k1;replace hE:=zh hE;go_enter func5,ntmps5
 go_wp2_with fail
 refine k1.o.mono ?_;rintro e w2 ⟨aK,_,aG⟩;obtain⟨s,Ap,Ac,Av,cp,cc,cv,rfl,ah,ap,_⟩:=aK ⟨P3,by decide⟩;obtain rfl:s=sA:=ah.unique UE;have aA:Hid (Below w.heap.size w w2):=ar.o.trans (aG.mono ar.o.size);have aN:=zh (aB.o.below aG);clear k1 aG aB ar aK ah;have av:Hid (Bk (w2.alloc (.cells #[.slice Ap sA.ps.length cp,.slice Ac sA.cap.length cc,.slice Av sA.vot.length cv] 32)) w2.heap.size 32 (SC sA Ap Ac Av cp cc cv)):=Bk.new _ _ _;have au:Hid (Below w2.heap.size w2 ((w2.alloc (.cells #[.slice Ap sA.ps.length cp,.slice Ac sA.cap.length cc,.slice Av sA.vot.length cv] 32)).alloc (.cells #[.string ⟨#[97]⟩,.string ⟨#[98]⟩,.string ⟨#[112]⟩] 9))):=((zI _ w2).alloc (zB _) _).alloc (by simp) _;have aZ:=zh (av.o.alloc (.cells #[.string ⟨#[97]⟩,.string ⟨#[98]⟩,.string ⟨#[112]⟩] 9))
 have aW:Hid (InStr ((w2.alloc (.cells #[.slice Ap sA.ps.length cp,.slice Ac sA.cap.length cc,.slice Av sA.vot.length cv] 32)).alloc (.cells #[.string ⟨#[97]⟩,.string ⟨#[98]⟩,.string ⟨#[112]⟩] 9)) (some ⟨w2.heap.size+1,0,none⟩) pA):=by
  have h:=YA (l:=pA) (Bk.new (w2.alloc (.cells #[.slice Ap sA.ps.length cp,.slice Ac sA.cap.length cc,.slice Av sA.vot.length cv] 32)) 9 [.string ⟨#[97]⟩,.string ⟨#[98]⟩,.string ⟨#[112]⟩]);simp only[zV]at h;exact h
 have kt:=zh (Ry sA.ps pA Ap (some ⟨w2.heap.size+1,0,none⟩) cp 3 _ (ap.ps.below au.o) aW.o (by decide) (by decide));rw[show decide (sA.ps=pA)=true from zG rfl,show pA.length=3 from rfl]at kt;have c0:=av.o.c0;have c9:=av.o.lt;replace ap:=zh ap
 go_wp2_with fail
 refine kt.o.q fun w5 aH=>?_;have ag:=zh (aZ.o.below aH);have ae:Hid (Below w2.heap.size w2 w5):=au.o.trans (aH.mono au.o.size);have aj:Hid (Below w.heap.size w w5):=aA.o.trans (ae.o.mono aA.o.size);have aF:=zh (ap.o.below ae.o);have aO:=zh (aN.o.below ae.o);clear kt c0 c9 aH av aZ aW au aA ae ap aN;have ak:Hid (Below w5.heap.size w5 (w5.alloc (.cells #[.int .i64 2] 3))):=(zI _ w5).alloc (zB _) _;have aL:Hid (InInt (w5.alloc (.cells #[.int .i64 2] 3)) (some ⟨w5.heap.size,0,none⟩) [2]):=YB (l:=[2]) (Bk.new w5 _ _);have ke:=zh (Sh.Mv sA Ap Ac Av (some ⟨w5.heap.size,0,none⟩) cp cc cv 1 [2] _ (hE.o.below (aj.o.trans (ak.o.mono aj.o.size))) (aF.o.below ak.o) (by decide) (by decide) aL.o (by decide));rw[show ([2]:List Int).length=1 from rfl]at ke;have c0:=ag.o.c0;have c1:=ag.o.c1;have c2:=ag.o.c2;have c9:=ag.o.lt
 go_wp2_with fail
 refine ke.o.mono ?_;rintro e w7 ⟨h7,aT⟩;rw[zF ⟨G6,O5⟩]at h7;obtain⟨eb,rfl,_,hR⟩:=h7;have ad:Hid (Below w5.heap.size w5 w7):=ak.o.trans (aT.mono ak.o.size);have al:Hid (Below w.heap.size w w7):=aj.o.trans (ad.o.mono aj.o.size);have aq:=zh (ag.o.below ad.o);have aS:=zh (aF.o.below ad.o);have aP:=zh (aO.o.below ad.o);replace hR:=zh hR;clear ke c0 c1 c2 c9 aT ak aL aj ad ag aF aO;have am:Hid (Below w7.heap.size w7 (w7.alloc (.cells #[.int .i64 2] 3))):=(zI _ w7).alloc (zB _) _;have aM:Hid (InInt (w7.alloc (.cells #[.int .i64 2] 3)) (some ⟨w7.heap.size,0,none⟩) [2]):=YB (l:=[2]) (Bk.new w7 _ _);have ke:=zh (Co.EY sA Ap Ac Av (some ⟨w7.heap.size,0,none⟩) cp cc cv 1 [2] _ (hE.o.below (al.o.trans (am.o.mono al.o.size))) (aS.o.below am.o) (by decide) (by decide) aM.o (by decide));rw[show ([2]:List Int).length=1 from rfl]at ke;have c0:=aq.o.c0;have c1:=aq.o.c1;have c2:=aq.o.c2;have c9:=aq.o.lt
 go_wp2_with fail
 refine ke.o.mono ?_;rintro e w9 ⟨h9,aU⟩;rw[zF ⟨G6,O5⟩]at h9;obtain⟨rb,rfl,_,hO⟩:=h9;have af:Hid (Below w7.heap.size w7 w9):=am.o.trans (aU.mono am.o.size);have an:Hid (Below w.heap.size w w9):=al.o.trans (af.o.mono al.o.size);have aQ:=zh (aP.o.below af.o);have aE:=zh (hR.o.below af.o hR.o.lt);replace hO:=zh hO;clear ke c0 c1 c2 c9 aU am aM al af aq aS aP hR;have aa:Hid (Below w9.heap.size w9 (w9.alloc (.cells #[.string ⟨#[112]⟩] 9))):=(zI _ w9).alloc (zB _) _;have ax:Hid (InStr (w9.alloc (.cells #[.string ⟨#[112]⟩] 9)) (some ⟨w9.heap.size,0,none⟩) [⟨#[112]⟩]):=YA (l:=[⟨#[112]⟩]) (Bk.new w9 _ _);have ke:=zh (Rv hA (some ⟨w.heap.size,0,none⟩) 3 0 [⟨#[112]⟩] (some ⟨w9.heap.size,0,none⟩) 1 ⟨#[98]⟩ 38 _ (hE.o.below (an.o.trans (aa.o.mono an.o.size))) (aQ.o.below aa.o) Y9 (by decide) ax.o (by intro x hx;rw[List.mem_singleton.1 hx];decide) (by decide) (by decide));rw[show hA.length=3 from rfl,show ([⟨#[112]⟩]:List ByteArray).length=1 from rfl]at ke
 go_wp2_with fail
 refine ke.o.mono ?_;rintro e aw ⟨a0,_,az⟩;obtain⟨s,b,f,rfl,ah,aR⟩:=a0 ⟨P3,Wi⟩;obtain rfl:s=sA:=ah.unique UE;obtain⟨rfl,rfl⟩:=Y8 aR;have d:Hid (Below w9.heap.size w9 aw):=aa.o.trans (az.mono aa.o.size);have ai:Hid (Below w.heap.size w aw):=an.o.trans (d.o.mono an.o.size);have ao:=zh (aE.o.below d.o aE.o.lt);have ay:=zh (hO.o.below d.o);clear ke az aa ax an d aQ aE hO ah aR;obtain⟨g1,n1,d1,aI⟩:=UH (ofQ 3 4);obtain⟨g2,n2,d2,aJ⟩:=UH (ofQ 3 8);have kr:Hid (∀W,Env W->Calls prog 20 #[.int .i64 3,.int .i64 4] W fun e w'=>e=.returned (.agg #[.bool g1,.string n1,.string d1])/\Below W.heap.size W w'):=fun W hW=>by rw[<-aI];exact G7 3 4 W hW (by omega) (by omega) (by omega) (by omega) (by omega)
 have ks:Hid (∀W,Env W->Calls prog 20 #[.int .i64 3,.int .i64 8] W fun e w'=>e=.returned (.agg #[.bool g2,.string n2,.string d2])/\Below W.heap.size W w'):=fun W hW=>by rw[<-aJ];exact G7 3 8 W hW (by omega) (by omega) (by omega) (by omega) (by omega)
 have aX:rq (Sh.ev sA [2] 0)=(g1,n1,d1):=by
  rw[XJ.1];injection aI with h;injection h with h;simp at h;obtain⟨rfl,rfl,rfl⟩:=h;rfl
 have aY:rq (Sh.ev sA [2] 1)=(g2,n2,d2):=by
  rw[XJ.2];injection aJ with h;injection h with h;simp at h;obtain⟨rfl,rfl,rfl⟩:=h;rfl
 have HS:Hid (∀W,Below aw.heap.size aw W->W.cell? ⟨eb,0,none⟩=some (.bool g1)/\W.cell? ⟨eb,1,none⟩=some (.string n1)/\W.cell? ⟨eb,2,none⟩=some (.string d1)/\W.cell? ⟨eb,3,none⟩=some (.bool g2)/\W.cell? ⟨eb,4,none⟩=some (.string n2)/\W.cell? ⟨eb,5,none⟩=some (.string d2)/\eb<W.heap.size /\
  W.cell? ⟨rb,0,none⟩=some (.int .i64 1)/\W.cell? ⟨rb,1,none⟩=some (.int .i64 (-1))/\rb<W.heap.size/\Env W):=fun W hW=>by
  have aD:=ao.o.below hW ao.o.lt;have aC:=ay.o.below hW;obtain⟨c0,c1,c2⟩:=aD.cell (j:=0) (by decide);obtain⟨d0,d1',d2'⟩:=aD.cell (j:=1) (by decide);have o0:=aC.cell 0 (by decide);have o1:=aC.cell 1 (by decide);rw[aX]at c0 c1 c2;rw[aY]at d0 d1' d2';rw[XK.1]at o0;rw[XK.2]at o1;exact⟨c0,c1,c2,d0,d1',d2',aD.lt,o0,o1,aC.lt,(hE.o.below ai.o).below hW⟩
 clear aX aY ao ay aI aJ;have a2:sA.ps.length=3:=rfl;rw[a2]
 go_wp2_with fail
 refine Sh.AT (by kernel_rfl) (by kernel_rfl) ?_
 repeat (
  with_reducible refine wI (fun K hK=>?_)
  first
   |(refine WA (by rfl) ?_;refine hK _ ?_;clear hK K;(try simp only[Act.put,zA,zD,zC]))
   |(refine WB (by rfl) ?_
     go_simp;apply Exists.intro;refine⟨fun W hW=>?_,hK _ ?_⟩
     first
      |(with_reducible exact Sh.AA hW (kr.o W (HS.o W hW).2.2.2.2.2.2.2.2.2.2))
      |(with_reducible exact Sh.AA hW (ks.o W (HS.o W hW).2.2.2.2.2.2.2.2.2.2))
      |(obtain⟨q1,q2,q3,q4,q5,q6,q7,q8,q9,a3,_⟩:=HS.o W hW;go_simp<;>with_reducible rfl)
     clear hK K))
 refine wU ?_;intro wf aV;have a1:Hid (Below w.heap.size w wf):=ai.o.trans (aV.mono ai.o.size);clear aV HS;go_wp2;go_ret;exact⟨rfl,a1.o⟩
end Rg
end
section
open Go.RowKit Go.Shelf
namespace Rg
open Nt Ci Sh
theorem O6(g1 g2:Bool)(n1 d1 n2 d2:ByteArray)(c f:Int)(w:World)(hE:Env w)
 (hk:∀W,Env W->Calls prog 55 #[.agg #[.bool g1,.string n1,.string d1],.agg #[.bool g2,.string n2,.string d2]] W fun e w'=>e=.returned (.tuple #[.int .i64 c,.int .i64 f])/\Below W.heap.size W w'):
 Calls prog 18 #[.agg #[.bool g1,.string n1,.string d1],.agg #[.bool g2,.string n2,.string d2]] w fun e w'=>e=.returned (.bool (decide (f=0)&&decide (c<=0)))/\Below w.heap.size w w':=by
 have d:Hid (Below w.heap.size w ((w.alloc (.cells #[.bool g1,.string n1,.string d1] 48)).alloc (.cells #[.bool g2,.string n2,.string d2] 48))):=(((zI _ w).alloc (zB _) _).alloc (by simp) _);have aa:Hid (Bk ((w.alloc (.cells #[.bool g1,.string n1,.string d1] 48)).alloc (.cells #[.bool g2,.string n2,.string d2] 48)) (w.heap.size) 48 [.bool g1,.string n1,.string d1]):=by have h:=Bk.new w 48 [.bool g1,.string n1,.string d1];have h:=h.alloc (.cells #[.bool g2,.string n2,.string d2] 48); exact h
 have ad:Hid (Bk ((w.alloc (.cells #[.bool g1,.string n1,.string d1] 48)).alloc (.cells #[.bool g2,.string n2,.string d2] 48)) (w.heap.size+1) 48 [.bool g2,.string n2,.string d2]):=by have h:=Bk.new (w.alloc (.cells #[.bool g1,.string n1,.string d1] 48)) 48 [.bool g2,.string n2,.string d2];simp only[zV]at h;exact h
 have k1:=zh (hk ((w.alloc (.cells #[.bool g1,.string n1,.string d1] 48)).alloc (.cells #[.bool g2,.string n2,.string d2] 48)) (hE.below d.o));clear hk;have x0:=aa.o.c0;have x1:=aa.o.c1;have x2:=aa.o.c2;have x9:=aa.o.lt;have y0:=ad.o.c0;have y1:=ad.o.c1;have y2:=ad.o.c2;have y9:=ad.o.lt
 by_cases hf:f=0
 .subst hf;rw[show (decide ((0:Int)=0)&&decide (c<=0))=decide (c<=0) by simp]
  cases hc:decide (c<=0) with
  |true=>
   go_enter func18,ntmps18
   go_wp2_with fail
   refine k1.o.q fun w3 hb=>?_;have ae:=d.t hb;have af:=zh (aa.o.below hb);have ag:=zh (ad.o.below hb);clear hb d aa ad k1 x0 x1 x2 x9 y0 y1 y2 y9;go_wp2;go_ret;exact⟨rfl,ae.o⟩
  |false=>
   go_enter func18,ntmps18
   go_wp2_with fail
   refine k1.o.q fun w3 hb=>?_;have ae:=d.t hb;have af:=zh (aa.o.below hb);have ag:=zh (ad.o.below hb);clear hb d aa ad k1 x0 x1 x2 x9 y0 y1 y2 y9;go_wp2;go_ret;exact⟨rfl,ae.o⟩
 have m1:(f==0)=false:=by rw[zN];exact hf
 rw[zH hf];replace hf:=zh hf;go_enter func18,ntmps18
 go_wp2_with fail
 refine k1.o.q fun w3 hb=>?_;have ae:=d.t hb;have af:=zh (aa.o.below hb);have ag:=zh (ad.o.below hb);clear hb d aa ad k1 x0 x1 x2 x9 y0 y1 y2 y9;go_wp2;go_ret;exact⟨rfl,ae.o⟩
theorem w11Least_any(p q:Rat)(hp:ShortQ p)(hq:ShortQ q)(w:World)(hE:Env w):
 Calls prog 18 #[.agg #[.bool (rq (p)).1,.string (rq (p)).2.1,.string (rq (p)).2.2],.agg #[.bool (rq (q)).1,.string (rq (q)).2.1,.string (rq (q)).2.2]] w fun e w'=>e=.returned (.bool (decide (p<=q)))/\Below w.heap.size w w':=by
 have h:=O6 _ _ _ _ _ _ _ _ w hE (fun W hW=>CI p q hp hq W hW);rw[OV]at h;exact h
end Rg
end
section
open Go.RowKit Go.Shelf
namespace Bd
open Nt Ci Sh
theorem ML(s:SR)(Ap Ac Av Af:Option Addr)(cp cc cv cf:Nat)(F:List Int)(kq:Bool)(Aq Dq:Option Addr)(mq oq:Nat)(Vq:List Raw)(Rq:List Int)(w:World)(hE:Env w)(hs:StIn w s Ap Ac Av)(hF:InInt w Af F)(aF:F.length<=140737488355328)(ah:CIn w Aq Dq Vq Rq):
 Calls prog 4 #[.agg #[.slice Ap s.ps.length cp,.slice Ac s.cap.length cc,.slice Av s.vot.length cv],.slice Af F.length cf,.agg #[.bool kq,.slice Aq Vq.length mq,.slice Dq Rq.length oq]] w fun e w'=>e=.returned (.bool true)/\Below w.heap.size w w':=by
 have aw:Hid (Below w.heap.size w ((w.alloc (.cells #[.slice Ap s.ps.length cp,.slice Ac s.cap.length cc,.slice Av s.vot.length cv] 32)).alloc (.cells #[.bool kq,.slice Aq Vq.length mq,.slice Dq Rq.length oq] 53))):=((zI _ w).alloc (zB _) _).alloc (by simp) _;have aI:Hid (Bk ((w.alloc (.cells #[.slice Ap s.ps.length cp,.slice Ac s.cap.length cc,.slice Av s.vot.length cv] 32)).alloc (.cells #[.bool kq,.slice Aq Vq.length mq,.slice Dq Rq.length oq] 53)) w.heap.size 32 (SC s Ap Ac Av cp cc cv)):=((Bk.new w 32 [.slice Ap s.ps.length cp,.slice Ac s.cap.length cc,.slice Av s.vot.length cv]).alloc (.cells #[.bool kq,.slice Aq Vq.length mq,.slice Dq Rq.length oq] 53));have aA:Hid (Bk ((w.alloc (.cells #[.slice Ap s.ps.length cp,.slice Ac s.cap.length cc,.slice Av s.vot.length cv] 32)).alloc (.cells #[.bool kq,.slice Aq Vq.length mq,.slice Dq Rq.length oq] 53)) (w.heap.size+1) 53 [.bool kq,.slice Aq Vq.length mq,.slice Dq Rq.length oq]):=(by have h:=Bk.new (w.alloc (.cells #[.slice Ap s.ps.length cp,.slice Ac s.cap.length cc,.slice Av s.vot.length cv] 32)) 53 [.bool kq,.slice Aq Vq.length mq,.slice Dq Rq.length oq];(try simp only[zV]at h);exact h:Bk ((w.alloc (.cells #[.slice Ap s.ps.length cp,.slice Ac s.cap.length cc,.slice Av s.vot.length cv] 32)).alloc (.cells #[.bool kq,.slice Aq Vq.length mq,.slice Dq Rq.length oq] 53)) (w.heap.size+1) 53 [.bool kq,.slice Aq Vq.length mq,.slice Dq Rq.length oq]);replace hE:=zh hE;replace hs:=zh hs;replace hF:=zh hF;replace ah:=zh ah;go_enter func4,ntmps4
 go_wp2_with fail
 refine(Rg.w11Chain_any _ (hE.o.below aw.o)).q fun w2 hb=>?_;have an:=zh (aI.o.below hb);have ax:=aw.t hb;have aB:=zh (aA.o.below hb);clear hb aI aw aA;have u0:=an.o.c0;have u1:=an.o.c1;have u2:=an.o.c2;have u9:=an.o.lt;have kf:=zh (Ou s Ap Ac Av cp cc cv w2 (hs.o.below ax.o))
 go_wp2_with fail
 refine kf.o.mono ?_;rintro e w3 ⟨⟨r,rfl,hr⟩,hb⟩;have ao:=zh (an.o.below hb);have d:=ax.t hb;have ad:=zh (aB.o.below hb);clear hb an ax aB u0 u1 u2 u9 kf
 cases r with
 |false=>
  clear hr;go_wp2;go_ret;exact⟨rfl,d.o⟩
 |true=>
 obtain⟨a0,aT,aV⟩:=hr rfl;clear hr;have af:=ad.o.c0;have ag:=ad.o.c1;have aj:=ad.o.c2;have aa:=ad.o.lt
 by_cases c1:10<(F.length:Int)
 .go_wp2;go_ret;exact⟨rfl,d.o⟩
 have aZ:=ah.o.lv;have aY:=ah.o.lr
 by_cases c2:10<(Vq.length:Int)
 .go_wp2;go_ret;exact⟨rfl,d.o⟩
 by_cases c3:10<(Rq.length:Int)
 .go_wp2;go_ret;exact⟨rfl,d.o⟩
 have aD:=zh (ah.o.below d.o);have aS:=zh ah.o.sz;go_wp2
 go_loopw [8] (fun i wr=>∃k:Nat,k<=Vq.length/\i=.int .i64 (k:Int)/\w3=wr) (fun i _=>Vq.length-(intOf i).toNat)
 case atStart=>exact⟨0,zS _,rfl,rfl⟩
 case round=>
 obtain⟨k,hk,rfl,rfl⟩:=hrel
 by_cases hlt:k<Vq.length
 .obtain ⟨bq,fq,rfl,z9,hz⟩:=aD.o.row (by omega);obtain⟨z0,z1,z2⟩:=hz k hlt;obtain⟨aN,aO⟩:=aS.o k hlt;clear hz;generalize Vq[k]=x at z0 z1 z2 aN aO;obtain⟨xg,xn,xd⟩:=x;simp only at z0 z1 z2 aN aO;have j0:(0:Int)<=(k:Int):=by omega
  have j1:(k:Int)<(Vq.length:Int):=by omega
  by_cases d1:40<(xn.size:Int)
  .go_wp2;go_ret;exact⟨rfl,d.o⟩
  by_cases d2:40<(xd.size:Int)
  .go_wp2;go_ret;exact⟨rfl,d.o⟩
  go_wp2;exact⟨⟨k+1,by omega,by go_num,by first|rfl|trivial⟩,by simp only[intOf];omega⟩
 obtain rfl:k=Vq.length:=by omega
 clear hlt hk;have u0:=ao.o.c0;have u1:=ao.o.c1;have u2:=ao.o.c2;have u9:=ao.o.lt;have ke:=zh (Mv s Ap Ac Av Af cp cc cv cf F w3 (hE.o.below d.o) (hs.o.below d.o) (by omega) (by omega) (hF.o.below d.o) aF);have kc:=zh (fun W (h:Below w.heap.size w W)=>TX s Ap Ac Av Af Aq Dq cp cc cv cf mq oq F kq Vq Rq W (hE.o.below h) (hs.o.below h) (by omega) (hF.o.below h) aF (ah.o.below h))
 go_wp2_with fail
 refine ke.o.mono ?_;rintro e w4 ⟨h4,hb⟩;have ap:=zh (ao.o.below hb);have am:=d.t hb;have ae:=zh (ad.o.below hb);clear hb ao d ad aD u0 u1 u2 u9 ke af ag aj aa;have k5:=zh (kc.o w4 am.o);clear kc;have u0:=ap.o.c0;have u1:=ap.o.c1;have u2:=ap.o.c2;have u9:=ap.o.lt;have af:=ae.o.c0;have ag:=ae.o.c1;have aj:=ae.o.c2;have aa:=ae.o.lt
 by_cases hg:Ak s=true/\AZ s.ps.length F=true
 rotate_left
 .rw[zE hg]at h4;subst h4
  go_wp2_with fail
  refine k5.o.mono ?_;rintro e w5 ⟨⟨r,rfl,hr⟩,hb⟩;have aq:=am.t hb;clear hr k5 u0 u1 u2 u9 af ag aj aa hb
  cases r<;>(go_wp2;go_ret;exact⟨rfl,aq.o⟩)
 rw[zF hg]at h4;obtain⟨eb,rfl,_,ar⟩:=h4
 go_wp2_with fail
 refine k5.o.mono ?_;rintro e w5 ⟨⟨r,rfl,hr⟩,hb⟩;have aW:=zh (ap.o.below hb);have aq:=am.t hb;have ai:=zh (ae.o.below hb);have au:=zh (ar.below hb ar.lt);clear hb ap am ae ar k5 u0 u1 u2 u9 af ag aj aa
 cases r with
 |false=>
  clear hr;go_wp2;go_ret;exact⟨rfl,aq.o⟩
 |true=>
  have ak:=zh (hr.1 rfl);clear hr;have az:AX s.ps.length (Ah s) (toN F)=false:=G0 F hg.1 (by omega);obtain⟨DD,aC⟩:=Pn (F:=F) hg.1 az;have aK:=zh (Oo (F:=F) hg.1 az);replace az:=zh az;replace aC:=zh aC;have af:=ai.o.c0;have ag:=ai.o.c1;have aj:=ai.o.c2;have aa:=ai.o.lt;have aX:=ak.o.len;have m1:((s.ps.length:Int) != (Vq.length:Int))=false:=by rw[zq];omega
  have m3:((Vq.length:Int) != (s.ps.length:Int))=false:=by rw[zq];omega
  have m4:(Vq.length != s.ps.length)=false:=by rw[zq];omega
  have m2:(s.ps.length != Vq.length)=false:=by rw[zq];omega
  have aR:Hid (∀p,p<s.ps.length->(kq=true->ev s F p<=D4 Vq p)/\(kq=false->D4 Vq p<=ev s F p)):=fun p hp=>⟨fun h=>by subst h;exact ak.o.abv.eff (BY ak.o.sound) aK.o p hp,fun h=>by subst h;exact ak.o.blw.eff (BY ak.o.sound) aK.o p hp⟩;have aG:Hid (Below w5.heap.size w5 w5):=zI _ _
  go_wp2_with fail
  clear af ag aj aa
  go_loopw [11] (fun ix wr=>∃(p:Nat),p<=s.ps.length/\ix=.int .i64 (p:Int)/\Hid (Below w5.heap.size w5 wr)) (fun ix _=>s.ps.length-(intOf ix).toNat)
  case atStart=>exact⟨0,zS _,rfl,aG⟩
  case round=>
   clear aG;obtain⟨p,hp,rfl,hK⟩:=hrel;obtain⟨wp,rfl⟩:∃z,z=wr:=⟨_,rfl⟩;have ay:=zh (aq.o.trans (hK.o.mono aq.o.size));have al:=zh (ai.o.below hK.o);have aH:=zh (au.o.below hK.o au.o.lt);have af:=al.o.c0;have ag:=al.o.c1;have aj:=al.o.c2;have aa:=al.o.lt;have aU:=hs.o.np
   by_cases hpn:p<s.ps.length
   .have j0:(0:Int)<=(p:Int):=by omega
    have j1:(p:Int)<(Vq.length:Int):=by omega
    have j2:(p:Int)<(s.ps.length:Int):=by omega
    obtain⟨bq,fq,aP,z9,hz⟩:=(ah.o.below ay.o).row (by omega);subst aP;obtain⟨z0,z1,z2⟩:=hz p (by omega);have ez:=ak.o.raw (p:=p) (by omega);rw[ez]at z0 z1 z2;clear hz ez;obtain⟨x0,x1,x2⟩:=aH.o.cell hpn;have x9:=aH.o.lt;have av:=aR.o p hpn;have sx:=aC.o.short p;have sy:=ak.o.short p;obtain⟨qx,aL⟩:∃q,q=ev s F p:=⟨_,rfl⟩;obtain⟨qz,aM⟩:∃q,q=D4 Vq p:=⟨_,rfl⟩;rw[<-aL]at x0 x1 x2 av sx;rw[<-aM]at z0 z1 z2 av sy;clear aL aM;have HT:Hid (∀W,Below wp.heap.size wp W->(fun W=>W.cell? ⟨w.heap.size+1,0,none⟩=some (.bool kq)/\W.cell? ⟨w.heap.size+1,1,none⟩=some (.slice (some ⟨bq,fq,none⟩) Vq.length mq)/\W.cell? ⟨eb,p*3,none⟩=some (.bool (rq (qx)).1)/\W.cell? ⟨eb,p*3+1,none⟩=some (.string (rq (qx)).2.1)/\W.cell? ⟨eb,p*3+2,none⟩=some (.string (rq (qx)).2.2)/\W.cell? ⟨bq,fq+p*3,none⟩=some (.bool (rq (qz)).1)/\W.cell? ⟨bq,fq+p*3+1,none⟩=some (.string (rq (qz)).2.1)/\W.cell? ⟨bq,fq+p*3+2,none⟩=some (.string (rq (qz)).2.2)) W):=fun W h=>⟨(h.cell (p:=⟨w.heap.size+1,0,none⟩) aa).trans af,(h.cell (p:=⟨w.heap.size+1,1,none⟩) aa).trans ag,(h.cell (p:=⟨eb,p*3,none⟩) x9).trans x0,(h.cell (p:=⟨eb,p*3+1,none⟩) x9).trans x1,(h.cell (p:=⟨eb,p*3+2,none⟩) x9).trans x2,(h.cell (p:=⟨bq,fq+p*3,none⟩) z9).trans z0,(h.cell (p:=⟨bq,fq+p*3+1,none⟩) z9).trans z1,(h.cell (p:=⟨bq,fq+p*3+2,none⟩) z9).trans z2⟩;have aE:Hid (∀W,Below wp.heap.size wp W->Env W):=fun W h=>hE.o.below (ay.o.trans (h.mono ay.o.size));clear x0 x1 x2 x9 z0 z1 z2 z9
    cases kq
    case' true=>have kl:Hid (∀W,Env W->Calls prog 18 #[.agg #[.bool (rq qx).1,.string (rq qx).2.1,.string (rq qx).2.2],.agg #[.bool (rq qz).1,.string (rq qz).2.1,.string (rq qz).2.2]] W fun e w'=>e=.returned (.bool true)/\Below W.heap.size W w'):=fun W hW=>by have h:=Rg.w11Least_any qx qz sx sy W hW;rw[zG (av.1 rfl)]at h;exact h
    case' false=>have kl:Hid (∀W,Env W->Calls prog 18 #[.agg #[.bool (rq qz).1,.string (rq qz).2.1,.string (rq qz).2.2],.agg #[.bool (rq qx).1,.string (rq qx).2.1,.string (rq qx).2.2]] W fun e w'=>e=.returned (.bool true)/\Below W.heap.size W w'):=fun W hW=>by have h:=Rg.w11Least_any qz qx sy sx W hW;rw[zG (av.2 rfl)]at h;exact h
    all_goals (
     clear av sx sy
     go_wp2_with fail
     clear af ag aj aa;refine AT (by kernel_rfl) (by kernel_rfl) ?_
     repeat (
      with_reducible refine wI (fun K hK=>?_)
      first
       |(refine BU (by rfl) ?_;refine hK _ ?_;clear hK K;(try simp only[Act.put,zA,zD,zC]))
       |(refine BV (by rfl) ?_
         go_simp;apply Exists.intro;refine⟨fun W hW=>?_,hK _ ?_⟩
         first
          |(with_reducible exact AA hW (kl.o W (aE.o W hW)))
          |(obtain⟨q1,q2,q3,q4,q5,q6,q7,q8⟩:=HT.o W hW;go_simp<;>with_reducible rfl)
         clear hK K))
     refine wU ?_;intro wf aJ;have aQ:Hid (Below w5.heap.size w5 wf):=hK.o.trans (aJ.mono hK.o.size);clear HT aE kl aJ;go_wp2;exact⟨⟨p+1,by omega,by go_num,aQ⟩,by simp only[intOf];omega⟩)
   obtain rfl:p=s.ps.length:=by omega
   go_wp2;go_ret;exact⟨rfl,ay.o⟩
end Bd
end
end Go.Proofs.YtefmpngjjmddjaaGreatDoor

/- Parts of the proof. -/
import Derived.Test.YtefmpngjjmddjaaGreatDoorKgK
set_option maxHeartbeats 32000000
set_option maxRecDepth 100000
open Go.Proofs.Tryz
namespace Go.Proofs.YtefmpngjjmddjaaGreatDoor
section
open Go.RowKit Go.Shelf
namespace Rg
open Nt Ci
def T1(l:List Hd)(day:Int)(w:World)(e:Ending)(w':World):Prop :=
 (Valid l/\CU day->∃s Ap Ac Av cp cc cv,e=.returned (.tuple #[.agg #[.slice Ap (List.length s.ps) cp,.slice Ac (List.length s.cap) cc,.slice Av (List.length s.vot) cv],.int .i64 0])/\AtS l day s/\StIn w' s Ap Ac Av/\s.cap.length<=5*l.length/\s.vot.length<=5*l.length/\Fr w.heap.size Ap/\Fr w.heap.size Ac/\Fr w.heap.size Av) /\
 (¬(Valid l/\CU day)->e=.returned (.tuple #[.agg #[.slice none 0 0,.slice none 0 0,.slice none 0 0],.int .i64 1]))/\Below w.heap.size w w'
theorem NE{tb:Nat}{u1 u2 u3:Value}{W:World}(hb:Bk W tb 32 [u1,u2,u3]){tmps:Array Value}(h4:tmps.getD 4 undef=.pointer (some ⟨tb,0,none⟩)){e:Int}(h5:tmps.getD 5 undef=.int .i64 e):
 (results Tryz.f9 tmps).run prog W=.ok (.tuple #[.agg #[u1,u2,u3],.int .i64 e]) W:=by
 have c0:=hb.c0;have c1:=hb.c1;have c2:=hb.c2;have c9:=hb.lt;rw[results_cell_tmp rfl,h4,h5];go_simp
theorem NF{W:World}{tb:Nat}{u1 u2 u3:Value}(h:Bk W tb 32 [u1,u2,u3])(v1 v2 v3:Value):Bk (((W.setCell ⟨tb,0,none⟩ v1).setCell ⟨tb,1,none⟩ v2).setCell ⟨tb,2,none⟩ v3) tb 32 [v1,v2,v3]:=((h.set 0 v1).set 1 v2).set 2 v3
theorem I9{w W:World}{n tb:Nat}(h:Below n w W)(hn:n<=tb)(v1 v2 v3:Value):Below n w (((W.setCell ⟨tb,0,none⟩ v1).setCell ⟨tb,1,none⟩ v2).setCell ⟨tb,2,none⟩ v3):=((h.setCell (p:=⟨tb,0,none⟩) hn v1).setCell (p:=⟨tb,1,none⟩) hn v2).setCell (p:=⟨tb,2,none⟩) hn v3
theorem IA(l:List Hd)(A0:Option Addr)(cap:Nat)(day:Int)(w:World)(hE:Env w)(hl:InHd w A0 l)(hz:∀h∈l,HdSz h)(bH:l.length<=1000000):
 Calls prog 9 #[.slice A0 l.length cap,.int .i64 day] w (T1 l day w):=by
 have bo:=@run_makeMap prog;have bf:Hid (Bk (w.alloc (.cells #[.slice none 0 0,.slice none 0 0,.slice none 0 0] 32)) w.heap.size 32 [.slice none 0 0,.slice none 0 0,.slice none 0 0]):=Bk.new w _ _;have aC:Hid (Below w.heap.size w (w.alloc (.cells #[.slice none 0 0,.slice none 0 0,.slice none 0 0] 32))):=(zI _ w).alloc (zB _) _;have kv:=zh (GF l A0 cap (w.alloc (.cells #[.slice none 0 0,.slice none 0 0,.slice none 0 0] 32)) (hl.below aC.o) hz bH);have au:Hid (∀e w',¬(Valid l/\CU day)->e=.returned (.tuple #[.agg #[.slice none 0 0,.slice none 0 0,.slice none 0 0],.int .i64 1])->Below w.heap.size w w'->T1 l day w e w'):=fun e w' h1 h2 h3=>⟨fun h=>absurd h h1,fun _=>h2,h3⟩;replace hE:=zh hE;replace hl:=zh hl;replace hz:=zh hz;go_enter func9,ntmps9
 go_wp2_with fail
 refine kv.o.mono ?_;rintro e w1 ⟨r,rfl,hV,aV⟩;have an:Hid (Below w.heap.size w w1):=aC.o.trans (aV.mono aC.o.size);have ab:Hid (Bk w1 w.heap.size 32 [.slice none 0 0,.slice none 0 0,.slice none 0 0]):=bf.o.below aV;clear kv aV aC bf
 cases r with
 |false=>
  have hN:Hid (¬(Valid l/\CU day)):=fun h=>Bool.false_ne_true (hV.2 h.1);have r0:=ab.o.c0;have r1:=ab.o.c1;have r2:=ab.o.c2;have r3:=ab.o.frozen 0;have r4:=ab.o.frozen 1;have r5:=ab.o.frozen 2;have r9:=ab.o.lt;clear bo hV;go_wp2;refine zm (NE (NF ab.o _ _ _) rfl rfl) rfl ?_;exact au.o _ _ hN.o rfl (I9 an.o (zB _) _ _ _)
 |true=>
  obtain⟨dd,ap⟩:∃q,q=decide (CU day):=⟨_,rfl⟩;have kd:=zh (FU day w1);rw[<-ap]at kd;have aA:Hid (Valid l):=hV.1 rfl;clear hV;replace ap:=zh ap
  go_wp2_with fail
  refine kd.o.mono ?_;rintro e w1b ⟨rfl,rfl⟩;clear kd
  cases dd with
  |false=>
   have hN:Hid (¬(Valid l/\CU day)):=fun h=>zu ap.o.symm h.2;have r0:=ab.o.c0;have r1:=ab.o.c1;have r2:=ab.o.c2;have r3:=ab.o.frozen 0;have r4:=ab.o.frozen 1;have r5:=ab.o.frozen 2;have r9:=ab.o.lt;clear bo;go_wp2;refine zm (NE (NF ab.o _ _ _) rfl rfl) rfl ?_;exact au.o _ _ hN.o rfl (I9 an.o (zB _) _ _ _)
  |true=>
   have bC:Hid (CU day):=zh (zL ap.o.symm);clear ap au;have am:Hid (∀h∈l,Proper h):=fun h hh=>Gj aA.o hh;have aY:∀h∈l,h.jo.length<=4:=fun h hh=>(am.o h hh).1.2.2.2.2.2.1;have kp:=zh (GP l A0 cap w1b (hl.o.below an.o) hz.o aY (by omega) (by have:=O2 aY;have:=aA.o.2.1;omega));clear aY
   go_wp2_with fail
   refine kp.o.mono ?_;rintro e w2 ⟨ps,A,c,rfl,hP,hS,aW,bE⟩;have bv:Hid (Below w.heap.size w w2):=an.o.trans (aW.mono an.o.size);have bM:ps.length<=60:=aA.o.2.2.1 ps hP;have a7:=zh (AtI.start (c:=c) bv.o (ab.o.below aW) hS hP.1 (by omega));have a6:=an.o.size;clear kp ab an aW;replace hP:=zh hP;replace hS:=zh hS;go_wp2
   go_loopw [32] (fun i wr=>∃k:Nat,k<=l.length/\i=.int .i64 (k:Int)/\Hid (AtI w ps A c w2.heap.size ((l.take k).flatMap (addC day)) ((l.take k).flatMap (addV day)) wr)) (fun i _=>l.length-(intOf i).toNat)
   case atStart=>exact⟨0,zQ _,rfl,a7⟩
   case round=>
    obtain⟨k,hk,rfl,hI⟩:=hrel;clear a7;obtain⟨wz,rfl⟩:∃z,z=wr:=⟨_,rfl⟩;obtain⟨DC,ah⟩:∃D,D=(l.take k).flatMap (addC day):=⟨_,rfl⟩;obtain⟨DV,ai⟩:∃D,D=(l.take k).flatMap (addV day):=⟨_,rfl⟩;have bP:=aA.o.2.1;have ak:Hid (Mod DC/\DC.length<=1000000):=⟨by rw[ah];exact Mb fun x hx=>Tz (am.o x (yC hx)) day,by have:=Hq (l:=l.take k) fun x hx=>LZ (am.o x (yC hx)) day;rw[<-ah,yt]at this;omega⟩;have al:Hid (Mod DV/\DV.length<=1000000):=⟨by rw[ai];exact Mb fun x hx=>T0 (am.o x (yC hx)) day,by have:=Hq (l:=l.take k) fun x hx=>Ma (am.o x (yC hx)) day;rw[<-ai,yt]at this;omega⟩;rw[<-ah,<-ai]at hI
    by_cases hlt:k<l.length
    .obtain ⟨b,off,rfl,af,bk⟩:=hl.o (by omega);obtain⟨Aj,cj,hj,hc⟩:=bk k hlt;clear bk;have hB:=zh hI.o.b;have a4:=hz.o l[k] (zN hlt);have ag:=am.o l[k] (zN hlt);have ad:=fun y (hy:y∈nms l[k])=>Qt hP.o (zN hlt) hy;have aq:=Fg (addC day) hlt;have ar:=Fg (addV day) hlt;rw[<-ah]at aq;rw[<-ai]at ar;have k0:(0:Int)<=(k:Int):=by omega
     have k1:(k:Int)<(l.length:Int):=by omega
     generalize l[k]=h at hc hj a4 ag ad aq ar;have aF:0<ps.length:=xw (ad h.co (by simp[nms]));have e0:=(hB.o.cell (p:=⟨b,_,none⟩) af).trans (hc 0 _ rfl);have e1:=(hB.o.cell (p:=⟨b,_,none⟩) af).trans (hc 1 _ rfl);have e2:=(hB.o.cell (p:=⟨b,_,none⟩) af).trans (hc 2 _ rfl);have e3:=(hB.o.cell (p:=⟨b,_,none⟩) af).trans (hc 3 _ rfl);have e4:=(hB.o.cell (p:=⟨b,_,none⟩) af).trans (hc 4 _ rfl);have e5:=(hB.o.cell (p:=⟨b,_,none⟩) af).trans (hc 5 _ rfl);have e6:=(hB.o.cell (p:=⟨b,_,none⟩) af).trans (hc 6 _ rfl);have e7:=(hB.o.cell (p:=⟨b,_,none⟩) af).trans (hc 7 _ rfl);have e8:=(hB.o.cell (p:=⟨b,_,none⟩) af).trans (hc 8 _ rfl);have e9:=(hB.o.cell (p:=⟨b,_,none⟩) af).trans (hc 9 _ rfl);simp only[ya]at e0;have bt:=zh a4;obtain⟨z0,z1,z2,z3,z4,z5,z6,z7,z8,z9,zt⟩:=a4;have ba:=zh (hI.o.below ((zI _ wz).alloc (zB _) (.cells #[.string h.id,.string h.co,.string h.ho,.string h.no,.string h.pl,.slice Aj h.jo.length cj,.int .i64 h.ca,.int .i64 h.vo,.int .i64 h.fr,.int .i64 h.tt] 29)));have a0:Hid (Bk (wz.alloc (.cells #[.string h.id,.string h.co,.string h.ho,.string h.no,.string h.pl,.slice Aj h.jo.length cj,.int .i64 h.ca,.int .i64 h.vo,.int .i64 h.fr,.int .i64 h.tt] 29)) wz.heap.size 29 [.string h.id,.string h.co,.string h.ho,.string h.no,.string h.pl,.slice Aj h.jo.length cj,.int .i64 h.ca,.int .i64 h.vo,.int .i64 h.fr,.int .i64 h.tt]):=Bk.new _ _ _;have kr:=zh (Ru h bt.o Aj cj day (wz.alloc (.cells #[.string h.id,.string h.co,.string h.ho,.string h.no,.string h.pl,.slice Aj h.jo.length cj,.int .i64 h.ca,.int .i64 h.vo,.int .i64 h.fr,.int .i64 h.tt] 29)));obtain⟨d,hd⟩:∃x,x=decide (BC h day):=⟨_,rfl⟩;rw[<-hd]at kr;have xl:=a0.o.lt;have bJ:w2.heap.size+3<wz.heap.size:=hI.o.pl.ol;replace hd:=zh hd;replace aq:=zh aq;replace ar:=zh ar;replace ag:=zh ag;replace ad:=zh ad;replace hc:=zh hc;replace hj:=zh hj;replace ah:=zh ah;replace ai:=zh ai
     go_wp2_with fail
     refine kr.o.q fun w3 ao=>?_;have ae:=zh (ba.o.below ao);have aH:=zh (a0.o.below ao);have bI:w2.heap.size+3<w3.heap.size:=ae.o.pl.ol;clear xl e0 e1 e2 e3 e4 e5 e6 e7 e8 e9 kr ba a0 ao
     cases d with
     |false=>
      have hN:Hid (AtI w ps A c w2.heap.size ((l.take (k+1)).flatMap (addC day)) ((l.take (k+1)).flatMap (addV day)) w3):=by
       rw[aq.o,ar.o,show addC day h=[] from zC (zu hd.o.symm),show addV day h=[] from zC (zu hd.o.symm),xN,xN];exact ae
      go_wp2;exact⟨⟨k+1,by omega,by go_num,hN⟩,by simp only[intOf];omega⟩
     |true=>
      have aO:Hid (addC day h=Kj (Cl h) h.co h.ca/\addV day h=Kj (Eh h) h.co h.vo):=⟨zD (zL hd.o.symm),zD (zL hd.o.symm)⟩;have bG:h.jo.length<=1000000:=by have:=ag.o.1.2.2.2.2.2.1;omega
      have aj:Hid (Below w3.heap.size w3 (w3.alloc (.cells #[.string h.ho] 9))):=(zI _ w3).alloc (zB _) _;have bs:=zh (aH.o.below aj.o);obtain⟨g,cp,w6,bO,aZ,aT,bm⟩:=NZ (w3.alloc (.cells #[.string h.ho] 9)) w3.heap.size [h.ho] Aj cj h.jo 1 rfl (by decide) (Bk.new w3 9 [.string h.ho]) (hj.o.below (ae.o.b.trans (aj.o.mono ae.o.b.size))) bG;have aJ:Hid (Below w3.heap.size w3 w6):=aj.o.grown bm aj.o.size fun b e=>by cases e;exact zB _
      have bc:=zh (ae.o.below aJ.o);have a1:=zh (aH.o.below aJ.o);have bR:w2.heap.size+3<w6.heap.size:=bc.o.pl.ol;clear bm aj;replace aZ:=zh aZ;replace aT:=zh aT;obtain⟨bn,bi⟩:∃q,h.no.toList.isEmpty=q:=⟨_,rfl⟩;obtain⟨bp,bj⟩:∃q,h.pl.toList.isEmpty=q:=⟨_,rfl⟩;have a2:=aH.o.c2;have a5:=bs.o.c5;have a9:=aH.o.lt;have a8:=bs.o.lt
      go_upto_if 48 with(at_builtin;refine Ej _ rfl _ _ 23 rfl rfl rfl rfl aZ.o ?_;clear a2 a5 a9 a8;have b3:=a1.o.c3;have b9:=a1.o.lt)
      go_cut [13] (fun v wx=>∃Aw n cw,v=.slice Aw n cw/\n=(Cl h).length/\Hid (InStr wx Aw (Cl h))/\(∀b off,Aw=some ⟨b,off,none⟩->w2.heap.size+3<b)/\Hid (Below w6.heap.size w6 wx))
      case first=>
       cases bn with
       |true=>
        have cn:h.no=⟨#[]⟩:=Decidable.byContradiction fun q=>Bool.false_ne_true ((G0 q).symm.trans bi);have hw:Hid (Cl h=h.ho::h.jo):=zD (by rw[cn];rfl);replace cn:=zh cn
        go_wp2_with fail
        go_meet
        exact⟨_,_,_,rfl,by rw[hw.o,zZ,Nat.add_comm],by rw[hw.o];exact aT,fun b off e=>by injection e with e;injection e with e;omega,zI _ _⟩
       |false=>
        have cn:h.no≠⟨#[]⟩:=fun q=>Bool.false_ne_true (bi.symm.trans (by rw[q,yP];rfl));have hw:Hid (Cl h=[h.no]):=zC fun q=>cn (Dd.2 q);have bz:Hid (InStr (w6.alloc (.cells #[.string h.no] 9)) (some ⟨w6.heap.size,0,none⟩) [h.no]):=W7 (Bk.new w6 9 [.string h.no]);have bw:Hid (Below w6.heap.size w6 (w6.alloc (.cells #[.string h.no] 9))):=(zI _ w6).alloc (zB _) _;replace cn:=zh cn
        go_wp2_with fail
        go_meet
        exact⟨_,_,_,rfl,by rw[hw.o];rfl,by rw[hw.o];exact bz,fun b off e=>by injection e with e;injection e with e;omega,bw⟩
      case rest=>
       obtain⟨Aw,n,cw,rfl,rfl,aU,aR,aK⟩:=hcut;have av:=zh (bc.o.below aK.o);have aB:=zh (a1.o.below aK.o);have kS:=zh (JL ps A c w2.heap.size (w2.heap.size+3) (w2.heap.size+1) DC (Cl h) Aw cw h.co h.ca wc av.o.pl aU.o av.o.mc ak.o.1 ak.o.2 (by have:=I8 ag.o;omega) ag.o.2.2.2.2.1 (ad.o _ (by simp[nms])) (fun x hx=>ad.o x (LV ag.o hx)) (by omega) (by omega) (fun b off e q=>by have:=(av.o.a aF b off e).1;omega) (fun b off e q=>by have:=aR b off e;omega));have b1:=aB.o.c1;have b6:=aB.o.c6;have b9:=aB.o.lt
       go_wp2_with fail
       refine kS.o.q fun w8 ⟨be,aD⟩=>?_;have bd:=zh (av.o.cap aF aD be);have a3:=zh (aB.o.grown aD (by intro e;injection e with e;omega));have bA:Hid (InStr w8 Aw (Cl h)):=InStr.grown aU.o aD fun b off e q=>by injection q with q;have:=aR b off e;omega
       have bS:w2.heap.size+3<w8.heap.size:=bd.o.pl.ol;clear kS b1 b6 b9 be aD av aB aU;have b4:=a3.o.c4;have b9:=a3.o.lt
       go_upto_if 62 with fail
       go_cut [13] (fun v wx=>∃Aw n cw,v=.slice Aw n cw/\n=(Eh h).length/\Hid (InStr wx Aw (Eh h))/\(∀b off,Aw=some ⟨b,off,none⟩->w2.heap.size+3<b)/\Hid (Below w8.heap.size w8 wx))
       case first=>
        cases bp with
        |true=>
         have cn:h.pl=⟨#[]⟩:=Decidable.byContradiction fun q=>Bool.false_ne_true ((G0 q).symm.trans bj);have hw:Hid (Eh h=Cl h):=zD (by rw[cn];rfl);replace cn:=zh cn
         go_wp2_with fail
         go_meet
         exact⟨_,_,_,rfl,by rw[hw.o],by rw[hw.o];exact bA,aR,zI _ _⟩
        |false=>
         have cn:h.pl≠⟨#[]⟩:=fun q=>Bool.false_ne_true (bj.symm.trans (by rw[q,yP];rfl));have hw:Hid (Eh h=[h.pl]):=zC fun q=>cn (Dd.2 q);have bB:Hid (InStr (w8.alloc (.cells #[.string h.pl] 9)) (some ⟨w8.heap.size,0,none⟩) [h.pl]):=W7 (Bk.new w8 9 [.string h.pl]);have bx:Hid (Below w8.heap.size w8 (w8.alloc (.cells #[.string h.pl] 9))):=(zI _ w8).alloc (zB _) _;replace cn:=zh cn
         go_wp2_with fail
         go_meet
         exact⟨_,_,_,rfl,by rw[hw.o];rfl,by rw[hw.o];exact bB,fun b off e=>by injection e with e;injection e with e;omega,bx⟩
       case rest=>
        obtain⟨Ay,n,cy,rfl,rfl,bg,bu,aL⟩:=hcut;have aw:=zh (bd.o.below aL.o);have aI:=zh (a3.o.below aL.o);clear b4 b9;have kS:=zh (JL ps A c w2.heap.size (w2.heap.size+3) (w2.heap.size+2) DV (Eh h) Ay cy h.co h.vo wc aw.o.pl bg.o aw.o.mv al.o.1 al.o.2 (by have:=LW ag.o;omega) ag.o.2.2.2.2.2.1 (ad.o _ (by simp[nms])) (fun x hx=>ad.o x (Ty ag.o hx)) (by omega) (by omega) (fun b off e q=>by have:=(aw.o.a aF b off e).1;omega) (fun b off e q=>by have:=bu b off e;omega));have b1:=aI.o.c1;have b7:=aI.o.c7;have b9:=aI.o.lt
        go_wp2_with fail
        refine kS.o.q fun bK ⟨aM,aN⟩=>?_
        have bb:Hid (AtI w ps A c w2.heap.size ((l.take (k+1)).flatMap (addC day)) ((l.take (k+1)).flatMap (addV day)) bK):=by
         rw[aq.o,ar.o,aO.o.1,aO.o.2];exact aw.o.vot aF aN aM
        clear kS b1 b7 b9 aM aN aw aI bg;go_wp2;exact⟨⟨k+1,by omega,by go_num,bb⟩,by simp only[intOf];omega⟩
    obtain rfl:k=l.length:=by omega
    rw[zn]at ah ai;have kc:=zh (JM ps DC (w2.heap.size+1) wz (hE.o.below hI.o.b) hI.o.mc ak.o.1 ak.o.2 (by omega))
    go_wp2_with fail
    refine kc.o.mono ?_;rintro e w3 ⟨⟨Ac,cc,lc,rfl,ay,ax,bN,aP⟩,ao⟩;have ae:=zh (hI.o.below ao);have kv:=zh (JM ps DV (w2.heap.size+2) w3 (hE.o.below ae.o.b) ae.o.mv al.o.1 al.o.2 (by omega));have bJ:w2.heap.size+3<wz.heap.size:=hI.o.pl.ol;have bI:w2.heap.size+3<w3.heap.size:=ae.o.pl.ol;clear kc ao;replace ay:=zh ay;replace ax:=zh ax
    go_wp2_with fail
    refine kv.o.mono ?_;rintro e w4 ⟨⟨Av,cv,lv,rfl,az,aS,bQ,aQ⟩,aX⟩;have aa:=zh (ae.o.below aX);replace ax:Hid (InLk w4 Ac lc):=ax.o.below aX;clear kv aX;replace az:=zh az;replace aS:=zh aS;have br:=aa.o.s;have s0:=aa.o.x.c0;have s1:=aa.o.x.c1;have s2:=aa.o.x.c2;have s3:=aa.o.x.frozen 0;have s4:=aa.o.x.frozen 1;have s5:=aa.o.x.frozen 2;have s9:=aa.o.x.lt;have r0:=aa.o.r.c0;have r1:=aa.o.r.c1;have r2:=aa.o.r.c2;have r3:=aa.o.r.frozen 0;have r4:=aa.o.r.frozen 1;have r5:=aa.o.r.frozen 2;have r9:=aa.o.r.lt;have bq:¬w.heap.size=w2.heap.size:=by omega
    have bL:¬w2.heap.size=w.heap.size:=by omega
    go_wp2;clear s0 s1 s2 s3 s4 s5 s9 r0 r1 r2 r3 r4 r5 r9;refine zm (NE (NF ((aa.o.r.far (p:=⟨w2.heap.size,1,none⟩) bq _).far (p:=⟨w2.heap.size,2,none⟩) bq _) _ _ _) rfl rfl) rfl ?_;have bh:=I9 ((aa.o.b.setCell (p:=⟨w2.heap.size,1,none⟩) (xW br) (.slice Ac lc.length cc)).setCell (p:=⟨w2.heap.size,2,none⟩) (xW br) (.slice Av lv.length cv)) (zB _) (.slice A ps.length c) (.slice Ac lc.length cc) (.slice Av lv.length cv)
    have aE:∀k,k≠w2.heap.size->k≠w.heap.size->(((((w4.setCell ⟨w2.heap.size,1,none⟩ (.slice Ac lc.length cc)).setCell ⟨w2.heap.size,2,none⟩ (.slice Av lv.length cv)).setCell ⟨w.heap.size,0,none⟩ (.slice A ps.length c)).setCell ⟨w.heap.size,1,none⟩ (.slice Ac lc.length cc)).setCell ⟨w.heap.size,2,none⟩ (.slice Av lv.length cv)).heap[k]? = w4.heap[k]?:=fun k h1 h2=>
     ((((ze _ ⟨w.heap.size,2,none⟩ _ k h2).trans (ze _ ⟨w.heap.size,1,none⟩ _ k h2)).trans (ze _ ⟨w.heap.size,0,none⟩ _ k h2)).trans (ze _ ⟨w2.heap.size,2,none⟩ _ k h1)).trans (ze _ ⟨w2.heap.size,1,none⟩ _ k h1)
    have aG:w4.heap.size<=(((((w4.setCell ⟨w2.heap.size,1,none⟩ (.slice Ac lc.length cc)).setCell ⟨w2.heap.size,2,none⟩ (.slice Av lv.length cv)).setCell ⟨w.heap.size,0,none⟩ (.slice A ps.length c)).setCell ⟨w.heap.size,1,none⟩ (.slice Ac lc.length cc)).setCell ⟨w.heap.size,2,none⟩ (.slice Av lv.length cv)).heap.size:=by simp
    generalize (((((w4.setCell ⟨w2.heap.size,1,none⟩ (.slice Ac lc.length cc)).setCell ⟨w2.heap.size,2,none⟩ (.slice Av lv.length cv)).setCell ⟨w.heap.size,0,none⟩ (.slice A ps.length c)).setCell ⟨w.heap.size,1,none⟩ (.slice Ac lc.length cc)).setCell ⟨w.heap.size,2,none⟩ (.slice Av lv.length cv))=w5 at bh aE aG ⊢;have bD:=Hq (l:=l) fun x hx=>LZ (am.o x hx) day;have bF:=Hq (l:=l) fun x hx=>Ma (am.o x hx) day;rw[<-ah]at bD;rw[<-ai]at bF;have q1:InStr w5 A ps:=InStr.same aa.o.pl.r aG fun h0 b off e _=>aE b (by have:=(aa.o.a h0 b off e).1;omega) (aa.o.a h0 b off e).2;have q2:InLk w5 Ac lc:=InLk.same ax.o aG fun b off e _=>aE b (by have:=aP b off e;omega) (by have:=aP b off e;omega);have q3:InLk w5 Av lv:=InLk.same aS.o aG fun b off e _=>aE b (by have:=aQ b off e;omega) (by have:=aQ b off e;omega);refine⟨fun _=>⟨⟨ps,lc,lv⟩,A,Ac,Av,c,cc,cv,rfl,⟨hP.o,by rw[<-ah];exact ay.o,by rw[<-ai];exact az.o⟩,⟨q1,q2,q3,(show ps.length<=_ by omega),(show lc.length<=_ by omega),(show lv.length<=_ by omega),fun x hx=>?_,fun x hx=>(ay.o.sz ak.o.1 ak.o.2 (by omega) hx).1,fun x hx=>(az.o.sz al.o.1 al.o.2 (by omega) hx).1,fun x hx=>(ay.o.sz ak.o.1 ak.o.2 (by omega) hx).2,fun x hx=>(az.o.sz al.o.1 al.o.2 (by omega) hx).2⟩,(show lc.length<=_ by omega),(show lv.length<=_ by omega),fun b off e=>zS a6 (bE b off e),fun b off e=>by have:=aP b off e;omega,fun b off e=>by have:=aQ b off e;omega⟩,fun n=>absurd ⟨aA.o,bC.o⟩ n,bh⟩;obtain⟨h,hh,hx⟩:=List.mem_flatMap.1 ((hP.o.2 x).1 hx);exact W8 (hz.o h hh) hx
theorem UW(l:List ByteArray)(A:Option Addr)(c:Nat)(s:ByteArray)(w:World)(hl:InStr w A l)(ag:l.length<=140737488355328):
 Calls prog 32 #[.slice A l.length c,.string s] w fun e w'=>e=.returned (.bool (decide (s∈l)))/\w'=w:=by
 have ad:Hid (∀k (h:k<l.length),l[k]=s->decide (s∈l)=true):=fun k h e=>zG (e▸zN h);have ab:Hid ((∀k (h:k<l.length),l[k]≠s)->decide (s∈l)=false):=fun q=>zH fun m=>by obtain⟨i,hi,e⟩:=zg m;exact q i hi e
 generalize decide (s∈l)=R at ad ab;replace hl:=zh hl;go_enter func32,ntmps32;go_wp2
 go_loop [5] (fun i=>∃k:Nat,k<=l.length/\i=.int .i64 (k:Int)/\Hid (∀j (h:j<l.length),j<k->l[j]≠s)) (fun i=>l.length-(intOf i).toNat)
 case atStart=>exact⟨0,zQ _,rfl,fun j _ h=>absurd h (yB _)⟩
 case round=>
  obtain⟨k,hk,rfl,hI⟩:=hrel
  by_cases hlt:k<l.length
  .obtain ⟨b,off,rfl,af,ae⟩:=hl.o (by omega);have e0:=ae k hlt;have d:=ad.o k hlt
   have aa:Hid (l[k]≠s->∀j (h:j<l.length),j<k+1->l[j]≠s):=fun h j hj h2=>by
    by_cases e:j=k
    .subst e;exact h
    exact hI.o j hj (by omega)
   have k0:(0:Int)<=(k:Int):=by omega
   have k1:(k:Int)<(l.length:Int):=by omega
   clear ae;generalize l[k]=x at e0 d aa
   by_cases c:x=s
   .have hQ:=zh (d c);have m1:(x.toList==s.toList)=true:=(@Bh x s).trans (zG c);replace c:=zh c;replace d:=zh d;go_wp2;go_ret;exact⟨Ad hQ.o.symm,rfl⟩
   have m1:(x.toList==s.toList)=false:=(@Bh x s).trans (zH c);have hN:=zh (aa.o c);replace c:=zh c;replace d:=zh d;go_wp2;exact⟨⟨k+1,by omega,by go_num,hN⟩,by simp only[intOf];omega⟩
  obtain rfl:k=l.length:=by omega
  have hQ:=zh (ab.o fun j h=>hI.o j h h);go_wp2;go_ret;exact⟨Ad hQ.o.symm,rfl⟩
def Xz(l:List ByteArray)(s:ByteArray)(i:Int):Prop:=(i=-1/\s∉l)\/∃(k:Nat)(h:k<l.length),i=k/\l[k]=s/\∀j (hj:j<l.length),j<k->l[j]≠s
def Fi(l:List ByteArray)(s:ByteArray)(w:World)(e:Ending)(w':World):Prop:=∃i,e=.returned (.int .i64 i)/\Xz l s i/\w'=w
theorem IB(l:List ByteArray)(A:Option Addr)(c:Nat)(s:ByteArray)(w:World)(hl:InStr w A l)(ag:l.length<=140737488355328):
 Calls prog 93 #[.slice A l.length c,.string s] w (Fi l s w):=by
 have ae:Hid (∀k (h:k<l.length),l[k]=s->(∀j (hj:j<l.length),j<k->l[j]≠s)->∀e,e=.returned (.int .i64 (k:Int))->Fi l s w e w):=fun k h e q x hx=>⟨k,hx,.inr ⟨k,h,rfl,e,q⟩,rfl⟩;have ad:Hid ((∀k (h:k<l.length),l[k]≠s)->∀e,e=.returned (.int .i64 (-1))->Fi l s w e w):=fun q x hx=>⟨-1,hx,.inl ⟨rfl,fun m=>by obtain⟨i,hi,e⟩:=zg m;exact q i hi e⟩,rfl⟩;replace hl:=zh hl;go_enter func93,ntmps93;go_wp2
 go_loop [8] (fun i=>∃k:Nat,k<=l.length/\i=.int .i64 (k:Int)/\Hid (∀j (h:j<l.length),j<k->l[j]≠s)) (fun i=>l.length-(intOf i).toNat)
 case atStart=>exact⟨0,zQ _,rfl,fun j _ h=>absurd h (yB _)⟩
 case round=>
  obtain⟨k,hk,rfl,hI⟩:=hrel
  by_cases hlt:k<l.length
  .obtain ⟨b,off,rfl,af,ab⟩:=hl.o (by omega);have e0:=ab k hlt;have d:=ae.o k hlt
   have aa:Hid (l[k]≠s->∀j (h:j<l.length),j<k+1->l[j]≠s):=fun h j hj h2=>by
    by_cases e:j=k
    .subst e;exact h
    exact hI.o j hj (by omega)
   have k0:(0:Int)<=(k:Int):=by omega
   have k1:(k:Int)<(l.length:Int):=by omega
   clear ab;generalize l[k]=x at e0 d aa
   by_cases c:x=s
   .have hQ:=zh (d c hI.o);have m1:(s.toList==x.toList)=true:=(@Bh s x).trans (zG c.symm);replace c:=zh c;clear d;go_wp2;go_ret;exact hQ.o _ rfl
   have m1:(s.toList==x.toList)=false:=(@Bh s x).trans (zH fun h=>c h.symm);have hN:=zh (aa.o c);replace c:=zh c;clear d;go_wp2;exact⟨⟨k+1,by omega,by go_num,hN⟩,by simp only[intOf];omega⟩
  obtain rfl:k=l.length:=by omega
  have hQ:=zh (ad.o fun j h=>hI.o j h h);go_wp2;go_ret;exact hQ.o _ rfl
theorem IU(l:List ByteArray)(A:Option Addr)(c:Nat)(s:ByteArray)(w:World)(hl:InStr w A l)(d:l.length<=140737488355328):
 Calls prog 92 #[.slice A l.length c,.string s] w fun e w'=>e=.returned (.bool (decide (s∈l)))/\w'=w:=by
 have ki:=zh (IB l A c s w hl d)
 have hR:Hid (∀i,Xz l s i->decide (0<=i)=decide (s∈l)):=fun i h=>by
  rcases h with⟨rfl,q⟩|⟨k,h,rfl,e,_⟩
  .rw[zH q];rfl
  rw[zG (show s∈l from e▸zN h)];exact zG (by omega)
 generalize decide (s∈l)=R at hR;clear hl;go_enter func92,ntmps92
 go_wp2_with fail
 refine ki.o.mono ?_;rintro e w' ⟨i,rfl,hi,hw⟩;obtain rfl:=hw.symm;have h2:=hR.o i hi;replace hi:=zh hi;go_wp2;go_ret;exact⟨by first|rfl|rw[h2],rfl⟩
theorem UX(s:ByteArray)(w:World)(hs:s.size<=9223372036854775807):
 Calls prog 91 #[.string s] w fun e w'=>e=.returned (.bool (Ak s))/\w'=w:=by
 have HB:=zh (fun(k:Nat) (h:k<s.size) (hb:¬Be k s[k].toNat)=>Jg (s:=s) h hb);have HA:=zh (Jh (s:=s));go_enter func91,ntmps91;go_wp2
 go_loop [8] (fun i=>∃k:Nat,k<=s.size/\i=.int .i64 k/\Hid (∀i (h:i<s.size),i<k->Be i s[i].toNat)) (fun i=>s.size-(intOf i).toNat)
 case atStart=>exact⟨0,zQ _,rfl,fun i _ h=>absurd h (yB _)⟩
 case round=>
  obtain⟨k,hk,rfl,hI⟩:=hrel
  by_cases hlt:k<s.size
  .have hc:s[k].toNat<=255:=by have:=s[k].toNat_lt;omega
   have i0:(0:Int)<=(k:Int):=by omega
   have i1:(k:Int)<(s.size:Int):=by omega
   have HN:Hid (Be k s[k].toNat->∀i (h:i<s.size),i<k+1->Be i s[i].toNat):=fun h i hi h2=>by
    by_cases e:i=k
    .subst e;exact h
    exact hI.o i hi (by omega)
   have HB2:=zh (HB.o k hlt);clear hI
   by_cases e0:k=0
   .have b0:((k:Int)==0)=true:=by rw[yw];omega
    have b0n:((k:Int) != 0)=false:=by rw[xF];omega
    have b3:(k==0)=true:=by rw[yw];omega
    replace e0:=zh e0;have d:(s[k].toNat<=47/\0<=s[k].toNat)\/(48<=s[k].toNat/\s[k].toNat<=57)\/(58<=s[k].toNat/\s[k].toNat<=64)\/(65<=s[k].toNat/\s[k].toNat<=90)\/(91<=s[k].toNat/\s[k].toNat<=94)\/(95<=s[k].toNat/\s[k].toNat<=95)\/(96<=s[k].toNat/\s[k].toNat<=96)\/(97<=s[k].toNat/\s[k].toNat<=122)\/(123<=s[k].toNat/\s[k].toNat<=255):=by omega
    rcases d with⟨g1,g2⟩|⟨g1,g2⟩|⟨g1,g2⟩|⟨g1,g2⟩|⟨g1,g2⟩|⟨g1,g2⟩|⟨g1,g2⟩|⟨g1,g2⟩|⟨g1,g2⟩
    .have b1:((s[k].toNat:Int) != 95)=true:=by rw[zy];omega
     have b2:((s[k].toNat:Int)==95)=false:=by rw[zP];omega
     have HR:Hid (Ak s=false):=HB2.o (by have:=e0.o;unfold Be;omega);clear HN HB2;go_wp2;go_ret;exact⟨Ad HR.o.symm,rfl⟩
    .have b1:((s[k].toNat:Int) != 95)=true:=by rw[zy];omega
     have b2:((s[k].toNat:Int)==95)=false:=by rw[zP];omega
     have HR:Hid (Ak s=false):=HB2.o (by have:=e0.o;unfold Be;omega);clear HN HB2;go_wp2;go_ret;exact⟨Ad HR.o.symm,rfl⟩
    .have b1:((s[k].toNat:Int) != 95)=true:=by rw[zy];omega
     have b2:((s[k].toNat:Int)==95)=false:=by rw[zP];omega
     have HR:Hid (Ak s=false):=HB2.o (by have:=e0.o;unfold Be;omega);clear HN HB2;go_wp2;go_ret;exact⟨Ad HR.o.symm,rfl⟩
    .have b1:((s[k].toNat:Int) != 95)=true:=by rw[zy];omega
     have b2:((s[k].toNat:Int)==95)=false:=by rw[zP];omega
     have HR:=zh (HN.o (by have:=e0.o;unfold Be;omega));clear HN HB2;go_wp2;go_round
     case rel=>exact⟨k+1,by omega,by go_num,HR⟩
     case measure=>simp[intOf];omega
    .have b1:((s[k].toNat:Int) != 95)=true:=by rw[zy];omega
     have b2:((s[k].toNat:Int)==95)=false:=by rw[zP];omega
     have c1:decide ((s[k].toNat:Int)<=90)=false:=by rw[zM];omega
     have d1:decide (s[k].toNat<=90)=false:=by rw[zM];omega
     have n1:¬((s[k].toNat:Int)<=90):=by omega
     have HR:Hid (Ak s=false):=HB2.o (by have:=e0.o;unfold Be;omega);clear HN HB2;go_wp2;go_ret;exact⟨Ad HR.o.symm,rfl⟩
    .have b1:((s[k].toNat:Int) != 95)=false:=by rw[xF];omega
     have b2:((s[k].toNat:Int)==95)=true:=by rw[yw];omega
     have c1:decide ((s[k].toNat:Int)<=90)=false:=by rw[zM];omega
     have d1:decide (s[k].toNat<=90)=false:=by rw[zM];omega
     have n1:¬((s[k].toNat:Int)<=90):=by omega
     have HR:Hid (Ak s=false):=HB2.o (by have:=e0.o;unfold Be;omega);clear HN HB2;go_wp2;go_ret;exact⟨Ad HR.o.symm,rfl⟩
    .have b1:((s[k].toNat:Int) != 95)=true:=by rw[zy];omega
     have b2:((s[k].toNat:Int)==95)=false:=by rw[zP];omega
     have c1:decide ((s[k].toNat:Int)<=90)=false:=by rw[zM];omega
     have d1:decide (s[k].toNat<=90)=false:=by rw[zM];omega
     have n1:¬((s[k].toNat:Int)<=90):=by omega
     have HR:Hid (Ak s=false):=HB2.o (by have:=e0.o;unfold Be;omega);clear HN HB2;go_wp2;go_ret;exact⟨Ad HR.o.symm,rfl⟩
    .have b1:((s[k].toNat:Int) != 95)=true:=by rw[zy];omega
     have b2:((s[k].toNat:Int)==95)=false:=by rw[zP];omega
     have c1:decide ((s[k].toNat:Int)<=90)=false:=by rw[zM];omega
     have d1:decide (s[k].toNat<=90)=false:=by rw[zM];omega
     have n1:¬((s[k].toNat:Int)<=90):=by omega
     have HR:=zh (HN.o (by have:=e0.o;unfold Be;omega));clear HN HB2;go_wp2;go_round
     case rel=>exact⟨k+1,by omega,by go_num,HR⟩
     case measure=>simp[intOf];omega
    have b1:((s[k].toNat:Int) != 95)=true:=by rw[zy];omega
    have b2:((s[k].toNat:Int)==95)=false:=by rw[zP];omega
    have c0:decide ((s[k].toNat:Int)<=122)=false:=by rw[zM];omega
    have d0:decide (s[k].toNat<=122)=false:=by rw[zM];omega
    have n0:¬((s[k].toNat:Int)<=122):=by omega
    have c1:decide ((s[k].toNat:Int)<=90)=false:=by rw[zM];omega
    have d1:decide (s[k].toNat<=90)=false:=by rw[zM];omega
    have n1:¬((s[k].toNat:Int)<=90):=by omega
    have HR:Hid (Ak s=false):=HB2.o (by have:=e0.o;unfold Be;omega);clear HN HB2;go_wp2;go_ret;exact⟨Ad HR.o.symm,rfl⟩
   have b0:((k:Int)==0)=false:=by rw[zP];omega
   have b0n:((k:Int) != 0)=true:=by rw[zy];omega
   have b3:(k==0)=false:=by rw[zP];omega
   have d:(s[k].toNat<=47/\0<=s[k].toNat)\/(48<=s[k].toNat/\s[k].toNat<=57)\/(58<=s[k].toNat/\s[k].toNat<=64)\/(65<=s[k].toNat/\s[k].toNat<=90)\/(91<=s[k].toNat/\s[k].toNat<=94)\/(95<=s[k].toNat/\s[k].toNat<=95)\/(96<=s[k].toNat/\s[k].toNat<=96)\/(97<=s[k].toNat/\s[k].toNat<=122)\/(123<=s[k].toNat/\s[k].toNat<=255):=by omega
   rcases d with⟨g1,g2⟩|⟨g1,g2⟩|⟨g1,g2⟩|⟨g1,g2⟩|⟨g1,g2⟩|⟨g1,g2⟩|⟨g1,g2⟩|⟨g1,g2⟩|⟨g1,g2⟩
   .have b1:((s[k].toNat:Int) != 95)=true:=by rw[zy];omega
    have b2:((s[k].toNat:Int)==95)=false:=by rw[zP];omega
    have HR:Hid (Ak s=false):=HB2.o (by unfold Be;omega);clear HN HB2;go_wp2;go_ret;exact⟨Ad HR.o.symm,rfl⟩
   .have b1:((s[k].toNat:Int) != 95)=true:=by rw[zy];omega
    have b2:((s[k].toNat:Int)==95)=false:=by rw[zP];omega
    have HR:=zh (HN.o (by unfold Be;omega));clear HN HB2;go_wp2;go_round
    case rel=>exact⟨k+1,by omega,by go_num,HR⟩
    case measure=>simp[intOf];omega
   .have b1:((s[k].toNat:Int) != 95)=true:=by rw[zy];omega
    have b2:((s[k].toNat:Int)==95)=false:=by rw[zP];omega
    have HR:Hid (Ak s=false):=HB2.o (by unfold Be;omega);clear HN HB2;go_wp2;go_ret;exact⟨Ad HR.o.symm,rfl⟩
   .have b1:((s[k].toNat:Int) != 95)=true:=by rw[zy];omega
    have b2:((s[k].toNat:Int)==95)=false:=by rw[zP];omega
    have HR:=zh (HN.o (by unfold Be;omega));clear HN HB2;go_wp2;go_round
    case rel=>exact⟨k+1,by omega,by go_num,HR⟩
    case measure=>simp[intOf];omega
   .have b1:((s[k].toNat:Int) != 95)=true:=by rw[zy];omega
    have b2:((s[k].toNat:Int)==95)=false:=by rw[zP];omega
    have c1:decide ((s[k].toNat:Int)<=90)=false:=by rw[zM];omega
    have d1:decide (s[k].toNat<=90)=false:=by rw[zM];omega
    have n1:¬((s[k].toNat:Int)<=90):=by omega
    have HR:Hid (Ak s=false):=HB2.o (by unfold Be;omega);clear HN HB2;go_wp2;go_ret;exact⟨Ad HR.o.symm,rfl⟩
   .have b1:((s[k].toNat:Int) != 95)=false:=by rw[xF];omega
    have b2:((s[k].toNat:Int)==95)=true:=by rw[yw];omega
    have c1:decide ((s[k].toNat:Int)<=90)=false:=by rw[zM];omega
    have d1:decide (s[k].toNat<=90)=false:=by rw[zM];omega
    have n1:¬((s[k].toNat:Int)<=90):=by omega
    have HR:=zh (HN.o (by unfold Be;omega));clear HN HB2;go_wp2;go_round
    case rel=>exact⟨k+1,by omega,by go_num,HR⟩
    case measure=>simp[intOf];omega
   .have b1:((s[k].toNat:Int) != 95)=true:=by rw[zy];omega
    have b2:((s[k].toNat:Int)==95)=false:=by rw[zP];omega
    have c1:decide ((s[k].toNat:Int)<=90)=false:=by rw[zM];omega
    have d1:decide (s[k].toNat<=90)=false:=by rw[zM];omega
    have n1:¬((s[k].toNat:Int)<=90):=by omega
    have HR:Hid (Ak s=false):=HB2.o (by unfold Be;omega);clear HN HB2;go_wp2;go_ret;exact⟨Ad HR.o.symm,rfl⟩
   .have b1:((s[k].toNat:Int) != 95)=true:=by rw[zy];omega
    have b2:((s[k].toNat:Int)==95)=false:=by rw[zP];omega
    have c1:decide ((s[k].toNat:Int)<=90)=false:=by rw[zM];omega
    have d1:decide (s[k].toNat<=90)=false:=by rw[zM];omega
    have n1:¬((s[k].toNat:Int)<=90):=by omega
    have HR:=zh (HN.o (by unfold Be;omega));clear HN HB2;go_wp2;go_round
    case rel=>exact⟨k+1,by omega,by go_num,HR⟩
    case measure=>simp[intOf];omega
   have b1:((s[k].toNat:Int) != 95)=true:=by rw[zy];omega
   have b2:((s[k].toNat:Int)==95)=false:=by rw[zP];omega
   have c0:decide ((s[k].toNat:Int)<=122)=false:=by rw[zM];omega
   have d0:decide (s[k].toNat<=122)=false:=by rw[zM];omega
   have n0:¬((s[k].toNat:Int)<=122):=by omega
   have c1:decide ((s[k].toNat:Int)<=90)=false:=by rw[zM];omega
   have d1:decide (s[k].toNat<=90)=false:=by rw[zM];omega
   have n1:¬((s[k].toNat:Int)<=90):=by omega
   have HR:Hid (Ak s=false):=HB2.o (by unfold Be;omega);clear HN HB2;go_wp2;go_ret;exact⟨Ad HR.o.symm,rfl⟩
  obtain rfl:k=s.size:=by omega
  have HE:Hid (Ak s=(decide (0<s.size)&&decide (s.size<=24))):=HA.o fun i h=>hI.o i h h
  have q0:s.toList.isEmpty=decide (s.size=0):=by
   rw[yP,Lib.size_eq]
   cases s.data.toList<;>simp
  clear hI
  by_cases h0:s.size=0
  .have q1:s.toList=[]:=by simpa [h0] using q0
   have q2:(!s.toList.isEmpty)=false:=by rw[q0,zG h0];rfl
   clear q0;go_wp2;go_ret;exact⟨Ad (by rw[HE.o,zH (by omega)];rfl),rfl⟩
  have q2:(!s.toList.isEmpty)=true:=by rw[q0,zH h0];rfl
  have q1:¬s.toList=[]:=fun e=>by rw[e]at q0;rw[zH h0]at q0;cases q0
  clear q0
  by_cases h24:s.size<=24
  .go_wp2;go_ret;exact⟨Ad (by rw[HE.o,zG (by omega:0<s.size),zG h24,zG (by omega:(s.size:Int)<=24)];rfl),rfl⟩
  go_wp2;go_ret;exact⟨Ad (by rw[HE.o,zG (by omega:0<s.size),zH h24,zH (by omega:¬(s.size:Int)<=24)];rfl),rfl⟩
theorem JN(s:ByteArray)(w:World)(hs:s.size<=9223372036854775807):
 Calls prog 91 #[.string s] w fun e w'=>e=.returned (.bool (Ak s))/\Below w.heap.size w w' :=
 (UX s w hs).mono fun e w' h=>by
   obtain⟨rfl,rfl⟩:=h;exact⟨rfl,zI _ _⟩
def Cq(day:Int)(l:List ByteArray)(pa:ByteArray)(pc:Int):Bool:=E8 l&&(decide (CU day)&&(decide (l.length<=60)&&(Ak pa&&decide (1<=pc/\pc<=100))))
theorem Qu(day:Int)(l:List ByteArray)(pa:ByteArray)(pc:Int)(A:Option Addr)(c:Nat)(w:World)(hs:InStr w A l)(hz:∀x∈l,x.size<=140737488355328)(av:l.length<=140737488355328)(zp:pa.size<=140737488355328):
 Calls prog 45 #[.agg #[.int .i64 day,.slice A l.length c,.string pa,.int .i64 pc]] w fun e w'=>e=.returned (.bool (Cq day l pa pc))/\Below w.heap.size w w':=by
 have ar:=zh (fun(k:Nat) (h:k<l.length) (hb:¬BV l k h)=>Ji (l:=l) h hb);have aq:=zh (Jj (l:=l));have ao:Hid (Bk (w.alloc (.cells #[.int .i64 day,.slice A l.length c,.string pa,.int .i64 pc] 102)) w.heap.size 102 [.int .i64 day,.slice A l.length c,.string pa,.int .i64 pc]):=Bk.new w _ _;have am:Hid (Below w.heap.size w (w.alloc (.cells #[.int .i64 day,.slice A l.length c,.string pa,.int .i64 pc] 102))):=(zI _ w).alloc (zB _) _;obtain⟨R,hR⟩:∃R,R=Cq day l pa pc:=⟨_,rfl⟩;have an:Hid (E8 l=false->R=false):=fun h=>by rw[hR];unfold Cq;rw[h];rfl
 have au:Hid (E8 l=true->R=(decide (CU day)&&(decide (l.length<=60)&&(Ak pa&&decide (1<=pc/\pc<=100))))):=fun h=>by rw[hR];unfold Cq;rw[h];rfl
 rw[<-hR];replace hR:=zh hR;replace hs:=zh hs;replace hz:=zh hz;go_enter func45,ntmps45;go_wp2
 go_loopw [8] (fun i wr=>∃k:Nat,k<=l.length/\i=.int .i64 (k:Int)/\Hid (Below w.heap.size w wr)/\Hid (Bk wr w.heap.size 102 [.int .i64 day,.slice A l.length c,.string pa,.int .i64 pc])/\Hid (∀i (h:i<l.length),i<k->BV l i h)) (fun i _=>l.length-(intOf i).toNat)
 case atStart=>exact⟨0,zQ _,rfl,am,ao,fun i _ h=>absurd h (yB _)⟩
 case round=>
  obtain⟨k,hk,rfl,hB,hX,hA⟩:=hrel;clear ao am
  by_cases hlt:k<l.length
  .obtain ⟨b,o,rfl,ap,hc⟩:=(hs.o.below hB.o) (by omega);have e1:=hc k hlt;have e0:Hid (0<k->wr.cell? ⟨b,o+(k-1),none⟩=some (.string (l[k-1]'(by omega)))):=fun h=>hc (k-1) (by omega);have zx:=hz.o l[k] (zN hlt);have ai:=zh (ar.o k hlt)
   have ag:Hid (BV l k hlt->∀i (h:i<l.length),i<k+1->BV l i h):=fun h i hi h2=>by
    by_cases e:i=k
    .subst e;exact h
    exact hA.o i hi (by omega)
   have ad:Hid (BV l k hlt<->Ak l[k]=true/\(0<k->Kh l[k] (l[k-1]'(by omega))=false)):=wB;obtain⟨nm,al⟩:∃x,x=l[k]:=⟨_,rfl⟩;rw[<-al]at e1 zx ad;replace al:=zh al;have u0:=hX.o.c1;have u9:=hX.o.lt;have i0:(0:Int)<=(k:Int):=by omega
   have i1:(k:Int)<(l.length:Int):=by omega
   have kn:=JN nm;clear hc
   cases ae:Ak nm with
   |false=>
    have HG:Hid (R=false):=an.o (ai.o fun h=>by have:=(ad.o.1 h).1;rw[ae]at this;cases this);rw[ae]at kn;replace kn:=zh kn;clear ae ad ag
    go_wp2_with fail
    refine(kn.o _ (by omega)).q fun w2 hb=>?_;have aa:=hB.t hb;clear hb;go_wp2;go_ret;exact⟨Ad HG.o.symm,aa.o⟩
   |true=>
    rw[ae]at kn;replace kn:=zh kn
    by_cases hk0:k=0
    .have m1:decide (0<(k:Int))=false:=zH (by omega);have m2:decide (0<k)=false:=zH (by omega);have HN:=zh (ag.o (ad.o.2 ⟨ae,fun h=>by omega⟩));replace hk0:=zh hk0;clear ae ad ag ai
     go_wp2_with fail
     refine(kn.o _ (by omega)).q fun w2 hb=>?_;have aa:=hB.t hb;have ab:=zh (hX.o.below hb);clear hb e1 u0 u9;go_wp2
     go_roundw
     case rel=>exact⟨k+1,by omega,by go_num,aa,ab,HN⟩
     case measure=>simp[intOf];omega
    have m1:decide (0<(k:Int))=true:=zG (by omega);have m2:decide (0<k)=true:=zG (by omega);have e2:=e0.o (by omega);obtain⟨pm,aj⟩:∃x,x=l[k-1]'(by omega):=⟨_,rfl⟩;rw[<-aj]at e2
    have af:Hid (BV l k hlt<->Ak nm=true/\Kh nm pm=false):=by
     rw[aj];exact⟨fun h=>⟨(ad.o.1 h).1,(ad.o.1 h).2 (by omega)⟩,fun h=>ad.o.2 ⟨h.1,fun _=>h.2⟩⟩
    replace aj:=zh aj;have ak:=NX 9 nm pm;have j1:(0:Int)<=(k:Int)-1:=by omega
    have j2:(k:Int)-1<(l.length:Int):=by omega
    have j3:((k:Int)-1).toNat=k-1:=by omega
    cases ah:Kh nm pm with
    |true=>
     have HG:Hid (R=false):=an.o (ai.o fun h=>by have:=(af.o.1 h).2;rw[ah]at this;cases this);rw[ah]at ak;clear ae ad ag af ah e0 ai
     go_wp2_with fail
     refine(kn.o _ (by omega)).q fun w2 hb=>?_;have aa:=hB.t hb;have ab:=zh (hX.o.below hb);replace e2:=(hb.cell (p:=⟨b,o+(k-1),none⟩) ap).trans e2;clear hb e1 u0 u9;have u0:=ab.o.c1;have u9:=ab.o.lt;go_wp2;go_ret;exact⟨Ad HG.o.symm,aa.o⟩
    |false=>
     have HN:=zh (ag.o (af.o.2 ⟨ae,ah⟩));rw[ah]at ak;clear ae ad ag af ah e0 ai
     go_wp2_with fail
     refine(kn.o _ (by omega)).q fun w2 hb=>?_;have aa:=hB.t hb;have ab:=zh (hX.o.below hb);replace e2:=(hb.cell (p:=⟨b,o+(k-1),none⟩) ap).trans e2;clear hb e1 u0 u9;have u0:=ab.o.c1;have u9:=ab.o.lt;go_wp2
     go_roundw
     case rel=>exact⟨k+1,by omega,by go_num,aa,ab,HN⟩
     case measure=>simp[intOf];omega
  obtain rfl:k=l.length:=by omega
  have hN:=zh (au.o (aq.o fun i h=>hA.o i h h));clear hA;have u0:=hX.o.c0;have u1:=hX.o.c1;have u2:=hX.o.c2;have u3:=hX.o.c3;have u9:=hX.o.lt
  by_cases c1:0<=day
  rotate_left
  .have hQ:Hid (R=false):=by show R=false;rw[hN.o,zH (fun h=>c1 h.1)];rfl
   have m1:decide (0<=day)=false:=zH c1;have m2:day<0:=by omega
   go_wp2;go_ret;exact⟨Ad hQ.o.symm,hB.o⟩
  by_cases c2:day<=100000
  rotate_left
  .have hQ:Hid (R=false):=by show R=false;rw[hN.o,zH (fun h=>c2 h.2)];rfl
   have m2:100000<day:=by omega
   go_wp2;go_ret;exact⟨Ad hQ.o.symm,hB.o⟩
  by_cases c3:l.length<=60
  rotate_left
  .have hQ:Hid (R=false):=by show R=false;rw[hN.o,zH c3];simp
   have m3:60<l.length:=by omega
   go_wp2;go_ret;exact⟨Ad hQ.o.symm,hB.o⟩
  have kn:=zh (JN pa wr (by omega));obtain⟨d,hd⟩:∃d,d=Ak pa:=⟨_,rfl⟩;rw[<-hd]at kn;replace hd:=zh hd
  go_wp2_with fail
  refine kn.o.q fun w2 hb=>?_;have aa:=hB.t hb;have ab:=zh (hX.o.below hb);have v3:=ab.o.c3;have v9:=ab.o.lt;clear u0 u1 u2 u3 u9 hb
  cases d with
  |false=>
   have hQ:Hid (R=false):=by show R=false;rw[hN.o,<-hd.o];simp
   go_wp2;go_ret;exact⟨Ad hQ.o.symm,aa.o⟩
  |true=>
   by_cases c5:1<=pc
   rotate_left
   .have hQ:Hid (R=false):=by show R=false;rw[hN.o,zH (fun h=>c5 h.1:¬(1<=pc/\pc<=100))];simp
    have m5:pc<1:=by omega
    go_wp2;go_ret;exact⟨Ad hQ.o.symm,aa.o⟩
   by_cases c6:pc<=100
   .have hQ:Hid (R=true):=by show R=true;rw[hN.o,<-hd.o,zG (show CU day from⟨c1,c2⟩),zG c3,zG (⟨c5,c6⟩:1<=pc/\pc<=100)];rfl
    go_wp2;go_ret;exact⟨Ad hQ.o.symm,aa.o⟩
   have hQ:Hid (R=false):=by show R=false;rw[hN.o,zH (fun h=>c6 h.2:¬(1<=pc/\pc<=100))];simp
   have m6:decide (pc<=100)=false:=zH c6;go_wp2;go_ret;exact⟨Ad hQ.o.symm,aa.o⟩
def BD(nm:List ByteArray)(ps:List ByteArray)(k:Nat):List Int:=((List.range k).filter fun i:Nat=>decide (Rg.nm ps (i:Int)∈nm)).map fun i:Nat=>(i:Int)
theorem JO{nm ps:List ByteArray}{k:Nat}(h:k<ps.length):BD nm ps (k+1)=BD nm ps k++if ps[k]∈nm then [(k:Int)] else []:=by
 unfold BD;rw[xi,yL,zw]
 congr 1
 have e:=EQ h
 by_cases c:ps[k]∈nm
 .rw[zD c,zk,zD (by rw[e];exact zG c)];rfl
 rw[zC c,zk,zC (by rw[e,zH c];decide)];rfl
theorem Gk(nm ps:List ByteArray)(k:Nat):(BD nm ps k).length<=k:=by
 unfold BD;rw[zW];exact zS (zr _ _) (by rw[yZ];exact zB _)
noncomputable def Gl(s:SR)(F:List Int):Int:=if Ao s=true/\AZ s.ps.length F=true then (if Sh.AX s.ps.length (Ag s) (toN F)=true then 2 else 0) else 1
def OwnR(s:SR)(nm:List ByteArray)(pa:ByteArray)(pc:Int)(b:Bool)(e:Int):Prop :=
 (Gl s (BD nm s.ps s.ps.length)≠0/\b=false/\e=Gl s (BD nm s.ps s.ps.length)) \/
 (Gl s (BD nm s.ps s.ps.length)=0/\e=0/\((pa∉s.ps/\b=false)\/∃(k:Nat)(h:k<s.ps.length),s.ps[k]=pa/\(∀j (hj:j<s.ps.length),j<k->s.ps[j]≠pa) /\
   b=(decide ((k:Int)∈BD nm s.ps s.ps.length)||decide (0<=Ki (Sh.ev s (BD nm s.ps s.ps.length) k) (ofQ pc 100))||Co.rd (Co.VT s) (toN (BD nm s.ps s.ps.length)) k != -1)))
theorem OwnR.unique{s:SR}{nm:List ByteArray}{pa:ByteArray}{pc:Int}{b c:Bool}{e f:Int}(h:OwnR s nm pa pc b e)(k:OwnR s nm pa pc c f):b=c/\e=f:=by
 rcases h with⟨h1,h2,h3⟩|⟨h1,h2,h3⟩<;>rcases k with⟨k1,k2,k3⟩|⟨k1,k2,k3⟩
 .exact⟨h2.trans k2.symm,h3.trans k3.symm⟩
 .exact absurd k1 h1
 .exact absurd h1 k1
 refine⟨?_,h2.trans k2.symm⟩
 rcases h3 with⟨a1,a2⟩|⟨i,hi,a1,a2,a3⟩<;>rcases k3 with⟨b1,b2⟩|⟨j,hj,b1,b2,b3⟩
 .exact a2.trans b2.symm
 .exact absurd (b1▸zN hj) a1
 .exact absurd (a1▸zN hi) b1
 have:i=j:=by
  rcases Nat.lt_trichotomy i j with c|c|c
  .exact absurd a1 (b2 i hi c)
  .exact c
  exact absurd b1 (a2 j hj c)
 subst this;exact a3.trans b3.symm
theorem JP{W:World}{base:Nat}{e:TypeId}{A:Option Addr}{n c:Nat}{l:List Int}(h:W.ownsRow base e 1 (.slice A n c) n (l.map (.int .i64))):InInt W A l:=fun h0=>by
 rcases h.2 with⟨h1,h2⟩|⟨g',cap',cur,h1,_,hg,_⟩
 .have:=h.1;rw[zW]at this;omega
 injection h1 with h1;refine⟨g',0,h1,(Array.getElem?_eq_some_iff.1 hg).1,fun j hj=>?_⟩;have:=h.cells (g:=g') (by rw[h1];rfl) j (.int .i64 l[j]) (by rw[xq,zj hj];rfl);rw[Dn]at this;exact this
def OwPost(l:List Hd)(day:Int)(nm:List ByteArray)(pa:ByteArray)(pc:Int)(w:World)(e:Ending)(w':World):Prop :=
 (∃s b f,e=.returned (.tuple #[.bool b,.int .i64 f])/\AtS l day s/\OwnR s nm pa pc b f)/\Below w.heap.size w w'
theorem OwPost.no{l:List Hd}{day:Int}{nm:List ByteArray}{pa:ByteArray}{pc:Int}{w w':World}{e:Ending}{s:SR}{f:Int}(hA:AtS l day s)(hf:f=Gl s (BD nm s.ps s.ps.length))(h0:f≠0)(he:e=.returned (.tuple #[.bool false,.int .i64 f]))(hb:Below w.heap.size w w'):OwPost l day nm pa pc w e w' :=
 ⟨⟨s,false,f,he,hA,.inl ⟨by rw[<-hf];exact h0,rfl,hf⟩⟩,hb⟩
theorem Qv(l:List Hd)(A0:Option Addr)(cap:Nat)(day:Int)(nm:List ByteArray)(Al:Option Addr)(cl:Nat)(pa:ByteArray)(pc:Int)(w:World)(hE:Env w)(hl:InHd w A0 l)(hz:∀h∈l,HdSz h)(bB:l.length<=60)(hV:Valid l)(hd:CU day)
 (hn:InStr w Al nm)(bs:nm.length<=140737488355328)(bt:1<=pc/\pc<=100):
 Calls prog 46 #[.agg #[.int .i64 day,.slice Al nm.length cl,.string pa,.int .i64 pc],.slice A0 l.length cap] w (OwPost l day nm pa pc w):=by
 have am:Hid (Bk (w.alloc (.cells #[.int .i64 day,.slice Al nm.length cl,.string pa,.int .i64 pc] 102)) w.heap.size 102 [.int .i64 day,.slice Al nm.length cl,.string pa,.int .i64 pc]):=Bk.new w _ _;have aF:Hid (Below w.heap.size w (w.alloc (.cells #[.int .i64 day,.slice Al nm.length cl,.string pa,.int .i64 pc] 102))):=(zI _ w).alloc (zB _) _;have aC:=zh (am.o.alloc (.cells #[.int .i64 day,.slice Al nm.length cl,.string pa,.int .i64 pc,.slice none 0 0,.slice none 0 0,.slice none 0 0,.slice none 0 0,.int .i64 0,.slice none 0 0] 147))
 have be:Hid (Bk ((w.alloc (.cells #[.int .i64 day,.slice Al nm.length cl,.string pa,.int .i64 pc] 102)).alloc (.cells #[.int .i64 day,.slice Al nm.length cl,.string pa,.int .i64 pc,.slice none 0 0,.slice none 0 0,.slice none 0 0,.slice none 0 0,.int .i64 0,.slice none 0 0] 147)) (w.heap.size+1) 147 [.int .i64 day,.slice Al nm.length cl,.string pa,.int .i64 pc,.slice none 0 0,.slice none 0 0,.slice none 0 0,.slice none 0 0,.int .i64 0,.slice none 0 0]):=by
  have h:=Bk.new (w.alloc (.cells #[.int .i64 day,.slice Al nm.length cl,.string pa,.int .i64 pc] 102)) 147 [.int .i64 day,.slice Al nm.length cl,.string pa,.int .i64 pc,.slice none 0 0,.slice none 0 0,.slice none 0 0,.slice none 0 0,.int .i64 0,.slice none 0 0];simp only[zX]at h;exact h
 have ao:Hid (Below w.heap.size w ((w.alloc (.cells #[.int .i64 day,.slice Al nm.length cl,.string pa,.int .i64 pc] 102)).alloc (.cells #[.int .i64 day,.slice Al nm.length cl,.string pa,.int .i64 pc,.slice none 0 0,.slice none 0 0,.slice none 0 0,.slice none 0 0,.int .i64 0,.slice none 0 0] 147))):=aF.o.alloc aF.o.size _;have ka:=zh (IA l A0 cap day _ (hE.below ao.o) (hl.below ao.o) hz (by omega));have y0:=am.o.c0;have y1:=am.o.c1;have y2:=am.o.c2;have y3:=am.o.c3;have y9:=am.o.lt;have z0:=aC.o.c0;have z9:=aC.o.lt;replace hE:=zh hE;replace hl:=zh hl;replace hz:=zh hz;replace hV:=zh hV;replace hn:=zh hn;go_enter func46,ntmps46
 go_wp2_with fail
 refine ka.o.mono ?_;rintro e w3 ⟨bg,bh,ar⟩;obtain⟨s,Ap,Ac,Av,cp,cc,cv,rfl,aj,aJ,bA,bC,fp,fc,fv⟩:=bg ⟨hV.o,hd⟩;have a7:=zh (aC.o.below ar);have af:=zh (be.o.below ar);have aS:Hid (Below w.heap.size w w3):=ao.o.trans (ar.mono ao.o.size);have bF:w.heap.size+2<=w3.heap.size:=by have:=ar.size;simp at this;omega
 clear ka y0 y1 y2 y3 y9 z0 z9 bh ar am aC be aF ao;simp only[zX]at fp fc fv;have x4:=af.o.c4;have x5:=af.o.c5;have x6:=af.o.c6;have g4:=af.o.frozen 4;have g5:=af.o.frozen 5;have g6:=af.o.frozen 6;have x9:=af.o.lt;have au:Hid (Kp [w.heap.size+1] w3 (((w3.setCell ⟨w.heap.size+1,4,none⟩ (.slice Ap s.ps.length cp)).setCell ⟨w.heap.size+1,5,none⟩ (.slice Ac s.cap.length cc)).setCell ⟨w.heap.size+1,6,none⟩ (.slice Av s.vot.length cv))):=(((Kp.refl _ w3).set _ (.inl (by simp))).set _ (.inl (by simp))).set _ (.inl (by simp));have ay:Hid (Bk (((w3.setCell ⟨w.heap.size+1,4,none⟩ (.slice Ap s.ps.length cp)).setCell ⟨w.heap.size+1,5,none⟩ (.slice Ac s.cap.length cc)).setCell ⟨w.heap.size+1,6,none⟩ (.slice Av s.vot.length cv)) (w.heap.size+1) 147 [.int .i64 day,.slice Al nm.length cl,.string pa,.int .i64 pc,.slice Ap s.ps.length cp,.slice Ac s.cap.length cc,.slice Av s.vot.length cv,.slice none 0 0,.int .i64 0,.slice none 0 0]):=((af.o.set 4 _).set 5 _).set 6 _;have aE:∀W,W=(((w3.setCell ⟨w.heap.size+1,4,none⟩ (.slice Ap s.ps.length cp)).setCell ⟨w.heap.size+1,5,none⟩ (.slice Ac s.cap.length cc)).setCell ⟨w.heap.size+1,6,none⟩ (.slice Av s.vot.length cv))->W.heap.size=w3.heap.size:=fun W e=>by rw[e];simp
 obtain⟨w4,ax⟩:∃q,q=(((w3.setCell ⟨w.heap.size+1,4,none⟩ (.slice Ap s.ps.length cp)).setCell ⟨w.heap.size+1,5,none⟩ (.slice Ac s.cap.length cc)).setCell ⟨w.heap.size+1,6,none⟩ (.slice Av s.vot.length cv)):=⟨_,rfl⟩;have ba:=aE _ ax;rw[<-ax]at au ay;have v4:=ay.o.c4;have v9:=ay.o.lt;rw[ax]at v4 v9;go_wp2;rw[<-ax];clear x4 x5 x6 g4 g5 g6 x9 v4 v9 aE;have a3:=zh (StIn.kp aJ au.o (zo _) fp fc fv);have bu:=zh (a7.o.kp au.o (by simp));have bi:Hid (Below w.heap.size w w4):=au.o.to_below aS.o (by simp);have aZ:Hid (w4.ownsRow w4.heap.size 3 1 (.slice none 0 0) 0 ((BD nm s.ps 0).map (.int .i64))):=yO _ _ _ _;have aX:Hid (Kp [w.heap.size+1] w4 w4):=Kp.refl _ _;have bD:=aJ.np;have bE:s.ps.length<=60:=hV.o.2.2.1 _ aj.1;obtain⟨i0,hi,aP,aQ,aR⟩:=wZ FG;replace aj:=zh aj;replace fp:=zh fp;replace fc:=zh fc;replace fv:=zh fv;replace hi:=zh hi;replace aP:=zh aP;replace aQ:=zh aQ;replace aR:=zh aR;clear au aS a7 af aJ ax
 go_loopw [24] (fun i wr=>∃(k n:Nat)(Aw:Option Addr)(cw:Nat),k<=s.ps.length/\i=.int .i64 (k:Int)/\n=(BD nm s.ps k).length/\Hid (Bk wr (w.heap.size+1) 147 [.int .i64 day,.slice Al nm.length cl,.string pa,.int .i64 pc,.slice Ap s.ps.length cp,.slice Ac s.cap.length cc,.slice Av s.vot.length cv,.slice Aw n cw,.int .i64 0,.slice none 0 0])/\Hid (wr.ownsRow w4.heap.size 3 1 (.slice Aw n cw) n ((BD nm s.ps k).map (.int .i64)))/\Hid (Kp [w.heap.size+1] w4 wr)) (fun i _=>s.ps.length-(intOf i).toNat)
 case atStart=>exact⟨0,0,none,0,zQ _,rfl,rfl,ay,aZ,aX⟩
 case round=>
  obtain⟨k,n,Aw,cw,hk,rfl,al,hx,hO,hK⟩:=hrel;clear ay aZ aX;have bv:n<=60:=by have:=Gk nm s.ps k;omega
  replace al:=zh al;obtain⟨wz,rfl⟩:∃z,z=wr:=⟨_,rfl⟩;have hB:Hid (Below w.heap.size w wz):=hK.o.to_below bi.o (by simp);have aA:=zh (StIn.kp a3.o hK.o (zo _) fp.o fc.o fv.o);have aD:=zh (bu.o.kp hK.o (by simp))
  by_cases hlt:k<s.ps.length
  .obtain ⟨b,off,rfl,bz,a5⟩:=aA.o.ps (by omega);have e0:=a5 k hlt;have aw:=JO (nm:=nm) hlt;have k0:(0:Int)<=(k:Int):=by omega
   have k1:(k:Int)<(s.ps.length:Int):=by omega
   have kc:=zh (IU nm Al cl s.ps[k] wz (hn.o.below hB.o) bs);generalize s.ps[k]=na at e0 aw kc;clear a5;replace aw:=zh aw;obtain⟨d,hd⟩:∃q,q=decide (na∈nm):=⟨_,rfl⟩;rw[<-hd]at kc;replace hd:=zh hd;have z1:=aD.o.c1;have z9:=aD.o.lt
   go_wp2_with fail
   refine kc.o.mono ?_;rintro e w5 ⟨rfl,rfl⟩;clear kc z1 z9 e0
   cases d with
   |false=>
    have aq:Hid (BD nm s.ps (k+1)=BD nm s.ps k):=zh (by rw[aw.o,zC (zu hd.o.symm),xN]);go_wp2;exact⟨⟨k+1,n,Aw,cw,by omega,by go_num,by rw[aq.o];exact al.o,hx,by rw[aq.o];exact hO,hK⟩,by simp only[intOf];omega⟩
   |true=>
    have aq:Hid (BD nm s.ps (k+1)=BD nm s.ps k++[(k:Int)]):=zh (by rw[aw.o,zD (zL hd.o.symm)]);have aH:Hid ((w5.alloc (.cells #[.int .i64 (k:Int)] 3)).ownsRow w4.heap.size 3 1 (.slice Aw n cw) n ((BD nm s.ps k).map (.int .i64))):=hO.o.alloc _;have ag:=zh (hx.o.alloc (.cells #[.int .i64 (k:Int)] 3));have aY:=zh (hK.o.alloc (.cells #[.int .i64 (k:Int)] 3));have bw:w.heap.size+1<w4.heap.size:=by rw[ba];omega
    have aO:Hid (∀(A9:Option Addr)(c9:Nat)(wb:World),wb.ownsRow w4.heap.size 3 1 (.slice A9 (n+1) c9) (n+1) ((BD nm s.ps k).map (.int .i64)++[.int .i64 (k:Int)])->(w5.alloc (.cells #[.int .i64 (k:Int)] 3)).grownBy wb (Value.slice Aw n cw).ownBlock ->
     Bk wb (w.heap.size+1) 147 [.int .i64 day,.slice Al nm.length cl,.string pa,.int .i64 pc,.slice (some ⟨b,off,none⟩) s.ps.length cp,.slice Ac s.cap.length cc,.slice Av s.vot.length cv,.slice Aw n cw,.int .i64 0,.slice none 0 0]/\Bk (wb.setCell ⟨w.heap.size+1,7,none⟩ (.slice A9 (n+1) c9)) (w.heap.size+1) 147 [.int .i64 day,.slice Al nm.length cl,.string pa,.int .i64 pc,.slice (some ⟨b,off,none⟩) s.ps.length cp,.slice Ac s.cap.length cc,.slice Av s.vot.length cv,.slice A9 (n+1) c9,.int .i64 0,.slice none 0 0]/\(wb.setCell ⟨w.heap.size+1,7,none⟩ (.slice A9 (n+1) c9)).ownsRow w4.heap.size 3 1 (.slice A9 (n+1) c9) (n+1) ((BD nm s.ps (k+1)).map (.int .i64))/\Kp [w.heap.size+1] w4 (wb.setCell ⟨w.heap.size+1,7,none⟩ (.slice A9 (n+1) c9))/\n+1=(BD nm s.ps (k+1)).length):=fun A9 c9 wb h1 h2=>by
     have h3:Bk wb (w.heap.size+1) 147 [.int .i64 day,.slice Al nm.length cl,.string pa,.int .i64 pc,.slice (some ⟨b,off,none⟩) s.ps.length cp,.slice Ac s.cap.length cc,.slice Av s.vot.length cv,.slice Aw n cw,.int .i64 0,.slice none 0 0]:=ag.o.grown h2 fun e=>by have:=(aH.o.lt _ e.symm).1;omega
     have h4:wb.ownsRow w4.heap.size 3 1 (.slice A9 (n+1) c9) (n+1) ((BD nm s.ps (k+1)).map (.int .i64)):=by rw[aq.o,zw];exact h1
     exact⟨h3,h3.set 7 _,h4.kept (Ci.Au _ _ _) (.inr fun e=>by have:=(h4.lt (w.heap.size+1) e).1;omega),(aY.o.grown h2 fun b e=>.inr (aH.o.lt b e).1).set _ (.inl (by simp)),by rw[aq.o,zV,<-al.o];rfl⟩
    have bm:Hid (w4.heap.size<=(w5.alloc (.cells #[.int .i64 (k:Int)] 3)).heap.size):=aY.o.size;have x7:=hx.o.c7;have x9:=hx.o.lt
    go_wp2_with (at_builtin;refine Ci.wpList_append_new _ rfl _ _ 37 rfl w4.heap.size 3 i0 (.int .i64 0) 1 8 underlying37 hi.o aP.o aQ.o aR.o rfl (by decide) (.slice Aw n cw) n _ rfl aH.o ⟨w5.heap.size,0,none⟩ 1 1 [.int .i64 (k:Int)] rfl rfl (Ci.BH _ _ _) (Ci.AM _ rfl) (by decide) (by unfold maxLen;omega) (by omega) bm.o ?_;intro vb wb ho hg br;obtain⟨A9,c9,rfl⟩:=Ci.CK ho;obtain⟨q1,q2,q3,q4,q5⟩:=aO.o A9 c9 wb ho hg;replace q2:=zh q2;replace q3:=zh q3;replace q4:=zh q4;replace q5:=zh q5;have y7:=q1.c7;have y8:=q1.frozen 7;have y9:=q1.lt;clear ho hg br q1 x7 x9)
    exact⟨⟨k+1,n+1,A9,c9,by omega,by go_num,q5.o,q2,q3,q4⟩,by simp only[intOf];omega⟩
  obtain rfl:k=s.ps.length:=by omega
  obtain⟨F,hF⟩:∃F,F=BD nm s.ps s.ps.length:=⟨_,rfl⟩;rw[<-hF]at al hO;have ap:InInt wz Aw F:=JP hO.o;have bx:F.length<=60:=by have:=Gk nm s.ps s.ps.length;rw[<-hF]at this;omega
  obtain rfl:n=F.length:=al.o;have ke:=zh (Sh.K4 s Ap Ac Av Aw cp cc cv cw F wz (hE.o.below hB.o) aA.o (by omega) ap (by omega));have x4:=hx.o.c4;have x5:=hx.o.c5;have x6:=hx.o.c6;have x7:=hx.o.c7;have xl:=hx.o.lt;replace hF:=zh hF;replace ap:=zh ap;have bk:=hO;clear al hO
  go_wp2_with fail
  refine ke.o.mono ?_;rintro e w5 ⟨h5,ad⟩;clear ke x4 x5 x6 x7 xl
  by_cases hg:Ao s=true/\AZ s.ps.length F=true
  .rw [zD hg]at h5
   by_cases ht:Sh.AX s.ps.length (Ag s) (toN F)=true
   .rw[zD ht]at h5;subst h5;have aa:=zh (hx.o.below ad);have an:Hid (Below w.heap.size w w5):=hB.o.trans (ad.mono hB.o.size);have ab:Hid (∀e w',e=.returned (.tuple #[.bool false,.int .i64 2])->Below w.heap.size w w'->OwPost l day nm pa pc w e w'):=fun e w' h1 h2=>OwPost.no aj.o (by unfold Gl;rw[<-hF];rw[zD hg,zD ht]) (by decide) h1 h2;have x9:=aa.o.cell (j:=9) rfl;have g9:=aa.o.frozen 9;have xl:=aa.o.lt;clear ad hx;go_wp2;go_ret2;exact ab.o _ _ rfl (an.o.setCell (p:=⟨w.heap.size+1,9,none⟩) (xo _) _)
   rw[zC ht]at h5;obtain⟨eb,rfl,bn,hR⟩:=h5;have a6:Hid (Gl s F=0):=zh (by unfold Gl;rw[zD hg,zC ht]);have an:Hid (Below w.heap.size w w5):=hB.o.trans (ad.mono hB.o.size);have aa:=zh (hx.o.below ad);have a8:=zh (aD.o.below ad);have a1:=zh (aA.o.below ad);have aU:Hid (InInt w5 Aw F):=ap.o.below ad;have bG:w.heap.size+1<eb:=zJ hx.o.lt bn;have aW:∀b off,Aw=some ⟨b,off,none⟩->b≠w.heap.size+1:=fun b off e=>by have:=(bk.o.lt b (by rw[e];rfl)).1;have:=ba;omega
   obtain⟨w6,ah⟩:∃q,q=w5.setCell ⟨w.heap.size+1,9,none⟩ (.slice (some ⟨eb,0,none⟩) s.ps.length s.ps.length):=⟨_,rfl⟩;have av:Hid (Kp [w.heap.size+1] w5 w6):=by rw[ah];exact(Kp.refl _ w5).set _ (.inl (by simp))
   have ag:Hid (Bk w6 (w.heap.size+1) 147 [.int .i64 day,.slice Al nm.length cl,.string pa,.int .i64 pc,.slice Ap s.ps.length cp,.slice Ac s.cap.length cc,.slice Av s.vot.length cv,.slice Aw F.length cw,.int .i64 0,.slice (some ⟨eb,0,none⟩) s.ps.length s.ps.length]):=by rw[ah];exact aa.o.set 9 _
   have a9:=zh (a8.o.kp av.o (by simp));have aI:=zh (StIn.kp a1.o av.o (zo _) fp.o fc.o fv.o);have aV:Hid (InInt w6 Aw F):=InInt.same aU.o av.o.size fun b off e h=>av.o.block b h (by have:=aW b off e;simpa using this);have a0:Hid (RowB w6 eb s.ps.length fun p=>rq (Sh.ev s F p)):=by rw[ah];exact hR.far (p:=⟨w.heap.size+1,9,none⟩) (by simp;omega) _
   have aT:Hid (Below w.heap.size w w6):=by rw[ah];exact an.o.setCell (p:=⟨w.heap.size+1,9,none⟩) (xo _) _
   have ki:=zh (IB s.ps Ap cp pa w6 aI.o.ps (by omega));have x9:=aa.o.cell (j:=9) rfl;have g9:=aa.o.frozen 9;have xl:=aa.o.lt;have y4:=ag.o.c4;have yl:=ag.o.lt;have q2:=a9.o.c2;have ql:=a9.o.lt;rw[ah]at y4 yl q2 ql ki;clear ad hx aD aA ap hR av
   go_wp2_with fail
   refine ki.o.mono ?_;rintro e w6b ⟨i,rfl,bq,bd⟩;rw[<-ah]at bd;obtain rfl:=bd.symm;replace ah:=zh ah;clear ki x9 g9 xl y4 yl q2 ql aa a8 a1 aU an;have x8:=ag.o.cell (j:=8) rfl;have g8:=ag.o.frozen 8;have xl:=ag.o.lt
   rcases bq with⟨bp,aN⟩|⟨k,aK,rfl,aL,aM⟩
   .have ab:Hid (∀e w',e=.returned (.tuple #[.bool false,.int .i64 0])->Below w.heap.size w w'->OwPost l day nm pa pc w e w'):=fun e w' h1 h2=>⟨⟨s,false,0,h1,aj.o,.inr ⟨by rw[<-hF.o];exact a6.o,rfl,.inl ⟨aN,rfl⟩⟩⟩,h2⟩;replace aN:=zh aN;subst bp;go_wp2;go_ret2;exact ab.o _ _ rfl (aT.o.setCell (p:=⟨w.heap.size+1,8,none⟩) (xo _) _)
   have i0:(0:Int)<=(k:Int):=by omega
   have i1:¬(k:Int)<0:=by omega
   obtain⟨w7,ai⟩:∃q,q=w6.setCell ⟨w.heap.size+1,8,none⟩ (.int .i64 (k:Int)):=⟨_,rfl⟩;have aB:Hid (Kp [w.heap.size+1] w6 w7):=by rw[ai];exact(Kp.refl _ w6).set _ (.inl (by simp))
   have bf:Hid (Bk w7 (w.heap.size+1) 147 [.int .i64 day,.slice Al nm.length cl,.string pa,.int .i64 pc,.slice Ap s.ps.length cp,.slice Ac s.cap.length cc,.slice Av s.vot.length cv,.slice Aw F.length cw,.int .i64 (k:Int),.slice (some ⟨eb,0,none⟩) s.ps.length s.ps.length]):=by rw[ai];exact ag.o.set 8 _
   have a2:=zh (StIn.kp aI.o aB.o (zo _) fp.o fc.o fv.o);have aG:Hid (InInt w7 Aw F):=InInt.same aV.o aB.o.size fun b off e h=>aB.o.block b h (by have:=aW b off e;simpa using this);have az:Hid (RowB w7 eb s.ps.length fun p=>rq (Sh.ev s F p)):=by rw[ai];exact a0.o.far (p:=⟨w.heap.size+1,8,none⟩) (by simp;omega) _
   have ak:Hid (Below w.heap.size w w7):=by rw[ai];exact aT.o.setCell (p:=⟨w.heap.size+1,8,none⟩) (xo _) _
   have ae:Hid (Below w7.heap.size w7 (w7.alloc (.cells #[.func (.func 125) #[] #[],.func (.func 126) #[] #[],.func (.func 127) #[] #[]] 151))):=(zI _ w7).alloc (zB _) _
   have bo:ShortQ (Sh.ev s F k):=by
    obtain⟨D,hD⟩:=Sh.UG hg.1 (by simpa using ht);exact hD.short k
   have kt:=zh (Qh w7)
   have kc:=zh (Qg (bf.o.below ae.o) (Bk.new w7 _ _)
    (fun W hW=>test1 day pc k pa Al Ap Ac Av Aw (some ⟨eb,0,none⟩) nm.length s.ps.length s.cap.length s.vot.length s.ps.length cl cp cc cv cw s.ps.length F W ((aG.o.below ae.o).below hW) (by omega))
    (fun W hW=>Xq day pc pa Al Ap Ac Av Aw nm.length s.ps.length s.cap.length s.vot.length F.length cl cp cc cv cw s.ps.length eb s.ps.length k (fun p=>Sh.ev s F p) W ((hE.o.below (ak.o.trans (ae.o.mono ak.o.size))).below hW) aK (by omega) ((az.o.below ae.o az.o.lt).below hW (zJ az.o.lt ae.o.size)) bo bt)
    (fun W hW=>Xr day pc pa Al Ap Ac Av Aw (some ⟨eb,0,none⟩) nm.length s.ps.length cl cp cc cv cw s.ps.length k s F W ((hE.o.below (ak.o.trans (ae.o.mono ak.o.size))).below hW) aK ((a2.o.below ae.o).below hW) (by omega) (by omega) ((aG.o.below ae.o).below hW) (by omega) hg))
   have ab:Hid (∀e w',e=.returned (.tuple #[.bool (decide ((k:Int)∈F)||decide (0<=Ki (Sh.ev s F k) (ofQ pc 100))||Co.rd (Co.VT s) (toN F) k != -1),.int .i64 0])->Below w.heap.size w w'->OwPost l day nm pa pc w e w'):=fun e w' h1 h2=>
    ⟨⟨s,_,0,h1,aj.o,.inr ⟨by rw[<-hF.o];exact a6.o,rfl,.inr ⟨k,aK,aL,aM,by rw[<-hF.o]⟩⟩⟩,h2⟩
   generalize (decide ((k:Int)∈F)||decide (0<=Ki (Sh.ev s F k) (ofQ pc 100))||Co.rd (Co.VT s) (toN F) k != -1)=bb at kc ab;clear ag aI aV a0 aB bf a2 aG az;replace aL:=zh aL;replace aM:=zh aM;rw[ai]at kt;replace ai:=zh ai
   go_wp2_with fail
   refine kt.o.q fun w8 bc=>?_;rw[<-ai.o]at bc ⊢;obtain rfl:=bc.symm;clear kt x8 g8 xl
   go_wp2_with fail
   refine kc.o.q fun w9 a4=>?_;have bj:Hid (Below w.heap.size w w9):=(ak.o.trans (ae.o.mono ak.o.size)).trans (a4.mono (zS ak.o.size ae.o.size));clear kc a4;go_wp2;go_ret2;exact ab.o _ _ rfl bj.o
  rw[zC hg]at h5;subst h5;have aa:=zh (hx.o.below ad);have an:Hid (Below w.heap.size w w5):=hB.o.trans (ad.mono hB.o.size);have ab:Hid (∀e w',e=.returned (.tuple #[.bool false,.int .i64 1])->Below w.heap.size w w'->OwPost l day nm pa pc w e w'):=fun e w' h1 h2=>OwPost.no aj.o (by unfold Gl;rw[<-hF];rw[zC hg]) (by decide) h1 h2;have x9:=aa.o.cell (j:=9) rfl;have g9:=aa.o.frozen 9;have xl:=aa.o.lt;clear ad hx;go_wp2;go_ret2;exact ab.o _ _ rfl (an.o.setCell (p:=⟨w.heap.size+1,9,none⟩) (xo _) _)
def DW(l:List Hd)(day:Int)(nm:List ByteArray)(pa:ByteArray)(pc:Int)(w:World)(e:Ending)(w':World):Prop :=
 (Valid l/\Cq day nm pa pc=true->∃s b f,e=.returned (.tuple #[.bool b,.int .i64 f])/\AtS l day s/\OwnR s nm pa pc b f)/\(¬(Valid l/\Cq day nm pa pc=true)->e=.returned (.tuple #[.bool false,.int .i64 1]))/\Below w.heap.size w w'
theorem GG(l:List Hd)(A0:Option Addr)(cap:Nat)(day:Int)(nm:List ByteArray)(Al:Option Addr)(cl:Nat)(pa:ByteArray)(pc:Int)(w:World)(hE:Env w)(hl:InHd w A0 l)(hz:∀h∈l,HdSz h)(aq:l.length<=60)
 (hn:InStr w Al nm)(aj:∀x∈nm,x.size<=140737488355328)(an:nm.length<=140737488355328)(zp:pa.size<=140737488355328):
 Calls prog 15 #[.slice A0 l.length cap,.int .i64 day,.slice Al nm.length cl,.string pa,.int .i64 pc] w (DW l day nm pa pc w):=by
 have ao:Hid (Bk (w.alloc (.cells #[.int .i64 day,.slice Al nm.length cl,.string pa,.int .i64 pc] 102)) w.heap.size 102 [.int .i64 day,.slice Al nm.length cl,.string pa,.int .i64 pc]):=Bk.new w _ _;have af:Hid (Below w.heap.size w (w.alloc (.cells #[.int .i64 day,.slice Al nm.length cl,.string pa,.int .i64 pc] 102))):=(zI _ w).alloc (zB _) _;have kv:=zh (GF l A0 cap (w.alloc (.cells #[.int .i64 day,.slice Al nm.length cl,.string pa,.int .i64 pc] 102)) (hl.below af.o) hz (by omega));have ag:Hid (∀e w',¬(Valid l/\Cq day nm pa pc=true)->e=.returned (.tuple #[.bool false,.int .i64 1])->Below w.heap.size w w'->DW l day nm pa pc w e w'):=fun e w' h1 h2 h3=>⟨fun h=>absurd h h1,fun _=>h2,h3⟩;replace hE:=zh hE;replace hl:=zh hl;replace hz:=zh hz;replace hn:=zh hn;replace aj:=zh aj;go_enter func15,ntmps15
 go_wp2_with fail
 refine kv.o.mono ?_;rintro e w2 ⟨r,rfl,hV,ah⟩;have ad:Hid (Below w.heap.size w w2):=af.o.trans (ah.mono af.o.size);have aa:=zh (ao.o.below ah);clear kv ah ao af
 cases r with
 |false=>
  have hN:Hid (¬(Valid l/\Cq day nm pa pc=true)):=fun h=>Bool.false_ne_true (hV.2 h.1);clear hV;go_wp2;go_ret2;exact ag.o _ _ hN.o rfl ad.o
 |true=>
  have al:Hid (Valid l):=hV.1 rfl;clear hV;have kq:=zh (Qu day nm pa pc Al cl w2 (hn.o.below ad.o) aj.o an zp);obtain⟨d,hd⟩:∃q,q=Cq day nm pa pc:=⟨_,rfl⟩;rw[<-hd]at kq;replace hd:=zh hd;have y0:=aa.o.c0;have y1:=aa.o.c1;have y2:=aa.o.c2;have y3:=aa.o.c3;have y9:=aa.o.lt
  go_wp2_with fail
  refine kq.o.q fun w3 ai=>?_;have ab:Hid (Below w.heap.size w w3):=ad.o.trans (ai.mono ad.o.size);have ae:=zh (aa.o.below ai);clear kq ai aa ad y0 y1 y2 y3 y9
  cases d with
  |false=>
   have hN:Hid (¬(Valid l/\Cq day nm pa pc=true)):=fun h=>by rw[<-hd.o]at h;exact Bool.false_ne_true h.2
   go_wp2;go_ret2;exact ag.o _ _ hN.o rfl ab.o
  |true=>
   have ak:CU day/\(1<=pc/\pc<=100):=by
    have h:=hd.o;unfold Cq at h;simp only[Eq.comm (a:=true),zq,yG]at h;exact⟨h.2.1,h.2.2.2.2⟩
   have ko:=zh (Qv l A0 cap day nm Al cl pa pc w3 (hE.o.below ab.o) (hl.o.below ab.o) hz.o aq al.o ak.1 (hn.o.below ab.o) an ak.2);clear ak;have y0:=ae.o.c0;have y1:=ae.o.c1;have y2:=ae.o.c2;have y3:=ae.o.c3;have y9:=ae.o.lt
   go_wp2_with fail
   refine ko.o.mono ?_;rintro e w4 ⟨⟨s,b,f,rfl,hA,hO⟩,am⟩;have ap:Hid (Below w.heap.size w w4):=ab.o.trans (am.mono ab.o.size);clear ko am y0 y1 y2 y3 y9;replace hA:=zh hA;replace hO:=zh hO;go_wp2;go_ret2;exact⟨fun _=>⟨s,b,f,rfl,hA.o,hO.o⟩,fun n=>absurd ⟨al.o,hd.o.symm⟩ n,ap.o⟩
def GH(p:Int)(n:Nat):Int:=if 0<p then p*60/n else 0
theorem Mc(x:Ct)(D:List Ct)(k:ByteArray×ByteArray):tot (x::D) k=(if x.1=k then x.2 else 0)+tot D k:=by
 unfold tot;rw[zk]
 by_cases e:x.1=k
 .rw[zD e,zD (zG e),yy,List.sum_cons]
 rw[zC e,zC (by rw[zH e];decide),Int.zero_add]
theorem KL(D E:List Ct)(k:ByteArray×ByteArray):tot (D++E) k=tot D k+tot E k:=by
 unfold tot;rw[yL,zw,List.sum_append]
theorem IC(who:List ByteArray)(co:ByteArray)(p:Int)(n:Nat)(k:ByteArray×ByteArray):
 tot (BTq who co p n) k=((who.filter fun x=>decide (x≠co)&&decide ((co,x)=k)).length:Int)*GH p n:=by
 unfold GH
 by_cases hp:0<p
 .rw [zD hp]
  induction who with
  |nil=>simp[BTq,tot]
  |cons x who ih=>
   have e:BTq (x::who) co p n=(if x≠co then [((co,x),p*60/(n:Int))] else [])++BTq who co p n:=by
    unfold BTq;rw[zk]
    by_cases c:x≠co
    .rw[zD c,zD (by rw[zG hp,zG c];rfl)];rfl
    rw[zC c,zC (by rw[zH c];simp)];rfl
   rw[e,KL,ih,zk]
   by_cases c:x≠co
   .rw [zD c]
    by_cases d:(co,x)=k
    .rw[zD (by rw[zG c,zG d];rfl),Mc,zD d,zZ]
     show p*60/(n:Int)+tot [] k+_=_
     rw[show tot [] k=0 from rfl,yr,Int.add_mul];omega
    rw[zC (by rw[zH d];simp),Mc,zC d]
    show 0+tot [] k+_=_
    rw[show tot [] k=0 from rfl];omega
   rw[zC c,zC (by rw[zH c];simp)]
   show tot [] k+_=_
   rw[show tot [] k=0 from rfl,Int.zero_add]
 rw[zC hp,Int.mul_zero];have:BTq who co p n=[]:=by unfold BTq;rw[List.filter_eq_nil_iff.2 (fun x _=>by rw[zH hp];simp)];rfl
 rw[this];rfl
theorem ID(who:List ByteArray)(co:ByteArray)(p:Int)(n:Nat)(k:ByteArray×ByteArray):
 (∃v,(k,v)∈BTq who co p n)<->0<p/\∃x∈who,x≠co/\(co,x)=k:=by
 unfold BTq;constructor
 .rintro⟨v,hv⟩;obtain⟨x,hx,e⟩:=List.mem_map.1 hv;obtain⟨h1,h2⟩:=List.mem_filter.1 hx;rw[zq]at h2;exact⟨zL h2.1,x,h1,zL h2.2,congrArg Prod.fst e⟩
 rintro⟨hp,x,hx,h2,h3⟩;exact⟨p*60/n,List.mem_map.2 ⟨x,List.mem_filter.2 ⟨hx,by rw[zG hp,zG h2];rfl⟩,by rw[h3]⟩⟩
theorem Qw{a b:Int}{n:Nat}(ha:0<=a)(hb:0<=b)(hn:n=1\/n=2\/n=3\/n=4\/n=5):GH (a+b) n=GH a n+GH b n:=by
 unfold GH
 rcases hn with rfl|rfl|rfl|rfl|rfl<;>(split<;>split<;>split<;>omega)
theorem IE(who:List ByteArray)(co:ByteArray){a b:Int}{n:Nat}(ha:0<=a)(hb:0<=b)(hn:n=1\/n=2\/n=3\/n=4\/n=5)(k:ByteArray×ByteArray):
 tot (BTq who co (a+b) n) k=tot (BTq who co a n) k+tot (BTq who co b n) k/\((∃v,(k,v)∈BTq who co (a+b) n)<->(∃v,(k,v)∈BTq who co a n)\/∃v,(k,v)∈BTq who co b n):=by
 refine⟨by rw[IC,IC,IC,Qw ha hb hn,Int.mul_add],?_⟩;rw[ID,ID,ID];constructor
 .rintro⟨h,q⟩
  by_cases c:0<a
  .exact .inl ⟨c,q⟩
  exact .inr ⟨by omega,q⟩
 rintro(⟨h,q⟩|⟨h,q⟩)
 .exact⟨by omega,q⟩
 exact⟨by omega,q⟩
structure Parts(h x y:Hd):Prop where
 sx:x.co=h.co/\x.ho=h.ho/\x.no=h.no/\x.pl=h.pl/\x.jo=h.jo/\x.fr=h.fr/\x.tt=h.tt
 sy:y.co=h.co/\y.ho=h.ho/\y.no=h.no/\y.pl=h.pl/\y.jo=h.jo/\y.fr=h.fr/\y.tt=h.tt
 c:h.ca=x.ca+y.ca/\0<=x.ca/\0<=y.ca
 v:h.vo=x.vo+y.vo/\0<=x.vo/\0<=y.vo
theorem O7{h:Hd}(hp:Proper h)(w:List ByteArray)(e:w=Cl h\/w=Eh h):w.length=1\/w.length=2\/w.length=3\/w.length=4\/w.length=5:=by
 have h4:=hp.1.2.2.2.2.2.1
 have hC:(Cl h).length=1\/(Cl h).length=2\/(Cl h).length=3\/(Cl h).length=4\/(Cl h).length=5:=by
  unfold Cl
  split
  .rw[zZ];omega
  exact .inl rfl
 rcases e with rfl|rfl
 .exact hC
 unfold Eh
 split
 .exact hC
 exact .inl rfl
theorem Dh(who:List ByteArray)(co:ByteArray)(p:Int):Kj who co p=BTq who co p who.length:=rfl
theorem Parts.addC{h x y:Hd}(q:Parts h x y)(hp:Proper h)(day:Int)(k:ByteArray×ByteArray):
 tot (Rg.addC day h) k=tot (Rg.addC day x) k+tot (Rg.addC day y) k/\((∃v,(k,v)∈Rg.addC day h)<->(∃v,(k,v)∈Rg.addC day x)\/∃v,(k,v)∈Rg.addC day y):=by
 obtain⟨a1,a2,a3,a4,a5,a6,a7⟩:=q.sx;obtain⟨b1,b2,b3,b4,b5,b6,b7⟩:=q.sy;have wx:Cl x=Cl h:=by unfold Cl;rw[a3,a2,a5]
 have wy:Cl y=Cl h:=by unfold Cl;rw[b3,b2,b5]
 have rx:BC x day<->BC h day:=by unfold BC;rw[a6,a7]
 have ry:BC y day<->BC h day:=by unfold BC;rw[b6,b7]
 unfold Rg.addC
 by_cases r:BC h day
 .rw[zD r,zD (rx.2 r),zD (ry.2 r),wx,wy,a1,b1,q.c.1,Dh,Dh,Dh];exact IE _ _ q.c.2.1 q.c.2.2 (O7 hp _ (.inl rfl)) k
 rw[zC r,zC (fun c=>r (rx.1 c)),zC (fun c=>r (ry.1 c))];exact⟨rfl,by simp⟩
theorem Parts.addV{h x y:Hd}(q:Parts h x y)(hp:Proper h)(day:Int)(k:ByteArray×ByteArray):
 tot (Rg.addV day h) k=tot (Rg.addV day x) k+tot (Rg.addV day y) k/\((∃v,(k,v)∈Rg.addV day h)<->(∃v,(k,v)∈Rg.addV day x)\/∃v,(k,v)∈Rg.addV day y):=by
 obtain⟨a1,a2,a3,a4,a5,a6,a7⟩:=q.sx;obtain⟨b1,b2,b3,b4,b5,b6,b7⟩:=q.sy;have wx:Eh x=Eh h:=by unfold Eh Cl;rw[a3,a2,a5,a4]
 have wy:Eh y=Eh h:=by unfold Eh Cl;rw[b3,b2,b5,b4]
 have rx:BC x day<->BC h day:=by unfold BC;rw[a6,a7]
 have ry:BC y day<->BC h day:=by unfold BC;rw[b6,b7]
 unfold Rg.addV
 by_cases r:BC h day
 .rw[zD r,zD (rx.2 r),zD (ry.2 r),wx,wy,a1,b1,q.v.1,Dh,Dh,Dh];exact IE _ _ q.v.2.1 q.v.2.2 (O7 hp _ (.inr rfl)) k
 rw[zC r,zC (fun c=>r (rx.1 c)),zC (fun c=>r (ry.1 c))];exact⟨rfl,by simp⟩
theorem IF(g:Hd->List Ct)(A B:List Hd)(h:Hd)(k:ByteArray×ByteArray):tot ((A++h::B).flatMap g) k=tot (A.flatMap g) k+(tot (g h) k+tot (B.flatMap g) k):=by
 rw[List.flatMap_append,List.flatMap_cons,KL,KL]
theorem IG(g:Hd->List Ct)(A B:List Hd)(h:Hd)(k:ByteArray×ByteArray):(∃v,(k,v)∈(A++h::B).flatMap g)<->(∃v,(k,v)∈A.flatMap g)\/(∃v,(k,v)∈g h)\/∃v,(k,v)∈B.flatMap g:=by
 rw[List.flatMap_append,List.flatMap_cons];simp only[yQ,exists_or]
theorem Parts.nms{h x y:Hd}(q:Parts h x y):nms x=nms h/\nms y=nms h:=by
 obtain⟨a1,a2,a3,a4,a5,_⟩:=q.sx;obtain⟨b1,b2,b3,b4,b5,_⟩:=q.sy;unfold Rg.nms;rw[a1,a2,a3,a4,a5,b1,b2,b3,b4,b5];exact⟨rfl,rfl⟩
theorem Parts.mem{A B:List Hd}{h x y:Hd}(q:Parts h x y)(z:ByteArray):z∈Dm (A++h::B)<->z∈Dm (A++x::(B++[y])):=by
 unfold Dm;rw[List.flatMap_append,List.flatMap_cons,List.flatMap_append,List.flatMap_cons,List.flatMap_append,List.flatMap_singleton,q.nms.1,q.nms.2];simp only[yQ];constructor
 .rintro(h|h|h)
  .exact .inl h
  .exact .inr (.inl h)
  exact .inr (.inr (.inl h))
 rintro(h|h|h|h)
 .exact .inl h
 .exact .inr (.inl h)
 .exact .inr (.inr h)
 exact .inr (.inl h)
theorem AtS.split{A B:List Hd}{h x y:Hd}(q:Parts h x y)(hp:Proper h){day:Int}{s t:SR}(hs:AtS (A++h::B) day s)(ht:AtS (A++x::(B++[y])) day t):s=t:=by
 have d:s.ps=t.ps:=hs.1.unique ht.1 q.mem
 have key:∀g:Hd->List Ct,(∀k,tot (g h) k=tot (g x) k+tot (g y) k/\((∃v,(k,v)∈g h)<->(∃v,(k,v)∈g x)\/∃v,(k,v)∈g y)) ->
  (∀k,(∃v,(k,v)∈(A++h::B).flatMap g)<->∃v,(k,v)∈(A++x::(B++[y])).flatMap g)/\∀k,tot ((A++h::B).flatMap g) k=tot ((A++x::(B++[y])).flatMap g) k:=by
  intro g hg;constructor
  .intro k;rw[IG,IG,IG,(hg k).2,List.flatMap_nil];constructor
   .rintro(h|(h|h)|h)
    .exact .inl h
    .exact .inr (.inl h)
    .exact .inr (.inr (.inr (.inl h)))
    exact .inr (.inr (.inl h))
   rintro(h|h|h|h|⟨v,hv⟩)
   .exact .inl h
   .exact .inr (.inl (.inl h))
   .exact .inr (.inr h)
   .exact .inr (.inl (.inr h))
   exact absurd hv yK
  intro k;rw[IF,IF,IF,(hg k).1,List.flatMap_nil,show tot [] k=0 from rfl];omega
 have h1:=key (Rg.addC day) fun k=>q.addC hp day k;have h2:=key (Rg.addV day) fun k=>q.addV hp day k;obtain⟨ps,cap,vot⟩:=s;obtain⟨qs,cap',vot'⟩:=t;obtain rfl:ps=qs:=d;have e1:=hs.2.1.unique ht.2.1 h1.1 h1.2;have e2:=hs.2.2.unique ht.2.2 h2.1 h2.2;rw[show cap=cap' from e1,show vot=vot' from e2]
theorem O8{l:List Hd}:(∀k (h:k<l.length),HW l k h)<->(∀h∈l,Proper h)/\(l.map Hd.id).Nodup:=by
 constructor
 .intro q;refine⟨fun h hh=>by obtain⟨i,hi,rfl⟩:=zg hh;exact(q i hi).1,?_⟩;rw[List.nodup_iff_pairwise_ne,List.pairwise_iff_getElem];intro i j hi hj d e;rw[zW]at hi hj;rw[zz,zz]at e;refine(q j hj).2 ?_;rw[<-e];exact List.mem_map.2 ⟨l[i],List.mem_of_getElem (i:=i) (h:=by rw[yt];omega) (by rw[wV]),rfl⟩
 rintro⟨q,n⟩ k hk;refine⟨q _ (zN hk),fun c=>?_⟩;obtain⟨z,hz,e⟩:=List.mem_map.1 c;obtain⟨i,hi,rfl⟩:=zg hz;rw[yt]at hi;rw[wV]at e;rw[List.nodup_iff_pairwise_ne,List.pairwise_iff_getElem]at n;exact n i k (by rw[zW];omega) (by rw[zW];exact hk) (by omega) (by rw[zz,zz];exact e)
theorem Proper.part{h x:Hd}(hp:Proper h)(e:x.co=h.co/\x.ho=h.ho/\x.no=h.no/\x.pl=h.pl/\x.jo=h.jo/\x.fr=h.fr/\x.tt=h.tt)(hi:Ak x.id=true)(hc:Cr x.ca)(hv:Cr x.vo):Proper x:=by
 obtain⟨id,co,ho,no,pl,jo,ca,vo,fr,tt⟩:=h;obtain⟨id',co',d,no',pl',jo',ca',vo',fr',tt'⟩:=x;obtain⟨e1,e2,e3,e4,e5,e6,e7⟩:=e;simp only[]at e1 e2 e3 e4 e5 e6 e7;subst e1;subst e2;subst e3;subst e4;subst e5;subst e6;subst e7;obtain⟨h1,h2,h3⟩:=hp;exact⟨⟨hi,h1.2⟩,h2,h3.1,h3.2.1,hc,hv,h3.2.2.2.2⟩
theorem ER(f:Hd->Int)(A B:List Hd)(day:Int)(c:ByteArray):AY f (A++B) day c=AY f A day c+AY f B day c:=by
 unfold AY;rw[yL,zw,List.sum_append]
theorem IH(f:Hd->Int)(h:Hd)(day:Int)(c:ByteArray):AY f [h] day c=if BC h day/\h.co=c then f h else 0:=by
 unfold AY
 by_cases e:BC h day/\h.co=c
 .rw[zD e,zk,zD (by rw[zG e.1,zG e.2];rfl)];simp
 rw[zC e,zk,zC (by intro q;rw[zq]at q;exact e ⟨zL q.1,zL q.2⟩)];simp
theorem II(f:Hd->Int){A B:List Hd}{h x y:Hd}(q:Parts h x y)(e:f h=f x+f y)(day:Int)(c:ByteArray):AY f (A++x::(B++[y])) day c=AY f (A++h::B) day c:=by
 rw[show A++x::(B++[y])=A++([x]++(B++[y])) from rfl,show A++h::B=A++([h]++B) from rfl,ER,ER,ER,ER,ER,IH,IH,IH];obtain⟨a1,_,_,_,_,a6,a7⟩:=q.sx;obtain⟨b1,_,_,_,_,b6,b7⟩:=q.sy;have rx:(BC x day/\x.co=c)<->(BC h day/\h.co=c):=by unfold BC;rw[a6,a7,a1]
 have ry:(BC y day/\y.co=c)<->(BC h day/\h.co=c):=by unfold BC;rw[b6,b7,b1]
 by_cases r:BC h day/\h.co=c
 .rw[zD (rx.2 r),zD (ry.2 r),zD r];omega
 rw[zC (fun k=>r (rx.1 k)),zC (fun k=>r (ry.1 k)),zC r];omega
theorem Valid.split{A B:List Hd}{h x y:Hd}(q:Parts h x y)(hv:Valid (A++h::B))(hx:x.id=h.id)(hy:Ak y.id=true)(hn:y.id∉(A++h::B).map Hd.id)(hl:(A++h::B).length<400):Valid (A++x::(B++[y])):=by
 obtain⟨h1,h2,h3,h4⟩:=hv;obtain⟨p1,p2⟩:=O8.1 h1;have hp:=p1 h (by simp);have aa:=hp.2.2.2.2.1;have ab:=hp.2.2.2.2.2.1;have qc:=q.c;have qv:=q.v;have px:Proper x:=hp.part q.sx (by rw[hx];exact hp.1.1) (by unfold Cr at *;omega) (by unfold Cr at *;omega);have py:Proper y:=hp.part q.sy hy (by unfold Cr at *;omega) (by unfold Cr at *;omega)
 have mem:∀z,z∈A++x::(B++[y])->z∈A++h::B\/z=x\/z=y:=fun z hz=>by
  rw[yQ,yW,yQ,ym]at hz;rw[yQ,yW]
  rcases hz with c|c|c|c
  .exact .inl (.inl c)
  .exact .inr (.inl c)
  .exact .inl (.inr (.inr c))
  exact .inr (.inr c)
 have hh:h∈A++h::B:=by simp
 refine⟨O8.2 ⟨fun z hz=>?_,?_⟩,by simp only[zV,zZ,ye]at hl ⊢;omega,fun ps d=>?_,?_⟩
 .rcases mem z hz with c|rfl|rfl
  .exact p1 z c
  .exact px
  exact py
 .have e:(A++x::(B++[y])).map Hd.id=(A++h::B).map Hd.id++[y.id]:=by simp[hx]
  rw[e];exact List.nodup_append.2 ⟨p2,by simp,fun a ha b hb=>by rw[List.mem_singleton.1 hb];exact fun c=>hn (c▸ha)⟩
 .exact h3 ps ⟨d.1,fun z=>(d.2 z).trans (q.mem z).symm⟩
 have bear:∀z∈A++h::B,D5 (A++x::(B++[y])) z.fr:=fun z hz g hg=>by
  rw[II Hd.ca q q.c.1,II Hd.vo q q.v.1]
  rcases mem g hg with c|rfl|rfl
  .exact h4 z hz g c
  .rw[q.sx.1];exact h4 z hz h hh
  rw[q.sy.1];exact h4 z hz h hh
 intro z hz
 rcases mem z hz with c|rfl|rfl
 .exact bear z c
 .rw[q.sx.2.2.2.2.2.1];exact bear h hh
 rw[q.sy.2.2.2.2.2.1];exact bear h hh
def hA:List Hd:=[⟨⟨#[104,49]⟩,⟨#[97]⟩,⟨#[112]⟩,⟨#[]⟩,⟨#[]⟩,[],60,60,0,-1⟩,⟨⟨#[104,50]⟩,⟨#[98]⟩,⟨#[97]⟩,⟨#[]⟩,⟨#[]⟩,[],50,50,0,-1⟩,⟨⟨#[104,51]⟩,⟨#[97]⟩,⟨#[98]⟩,⟨#[]⟩,⟨#[]⟩,[],40,40,0,-1⟩]
def lA:List Lk:=[(0,1,false,⟨#[50]⟩,⟨#[53]⟩),(0,2,false,⟨#[51]⟩,⟨#[53]⟩),(1,0,false,⟨#[49]⟩,⟨#[50]⟩)]
def pA:List ByteArray:=[⟨#[97]⟩,⟨#[98]⟩,⟨#[112]⟩]
def sA:SR:=⟨pA,lA,lA⟩
def dA:List Ct:=[((⟨#[97]⟩,⟨#[112]⟩),3600),((⟨#[98]⟩,⟨#[97]⟩),3000),((⟨#[97]⟩,⟨#[98]⟩),2400)]
theorem W9:hA.flatMap (addC 0)=dA:=by decide +kernel
theorem WA:hA.flatMap (addV 0)=dA:=by decide +kernel
theorem O9:IsLinks pA dA lA:=by
 refine⟨?_,fun x hx=>?_,fun i j hi hj hv=>?_⟩
 .simp[lA,Rise]
 .simp only[lA,yW,yK,xy]at hx
  rcases hx with rfl|rfl|rfl
  .exact⟨0,1,by decide,by decide,rfl,rfl,⟨2400,by simp[pA,dA]⟩,by decide +kernel⟩
  .exact⟨0,2,by decide,by decide,rfl,rfl,⟨3600,by simp[pA,dA]⟩,by decide +kernel⟩
  exact⟨1,0,by decide,by decide,rfl,rfl,⟨3000,by simp[pA,dA]⟩,by decide +kernel⟩
 obtain⟨v,hv⟩:=hv;have d:i=0\/i=1\/i=2:=by have:i<3:=hi;omega
 have h:j=0\/j=1\/j=2:=by have:j<3:=hj;omega
 rcases d with rfl|rfl|rfl<;>rcases h with rfl|rfl|rfl<;>first
  |(exfalso;simp[pA,dA]at hv;done)
  |exact⟨_,zf,rfl,rfl⟩
  |exact⟨_,zY _ zf,rfl,rfl⟩
  |exact⟨_,zY _ (zY _ zf),rfl,rfl⟩
theorem T3:AtS hA 0 sA:=by
 refine⟨⟨by decide +kernel,fun x=>?_⟩,by rw[W9];exact O9,by rw[WA];exact O9⟩;have e:Dm hA=[⟨#[97]⟩,⟨#[112]⟩,⟨#[98]⟩,⟨#[97]⟩,⟨#[97]⟩,⟨#[98]⟩]:=by decide +kernel
 rw[e];simp only[sA,pA,yW,yK,xy];constructor
 .rintro(h|h|h)<;>simp[h]
 rintro(h|h|h|h|h|h)<;>simp[h]
theorem OA:Valid hA:=by
 refine⟨by decide +kernel,by decide,fun ps h=>?_,by decide +kernel⟩;have e:ps=pA:=h.unique T3.1 fun _=>wB;rw[e];decide
theorem Gm:Ao sA=true:=by decide +kernel
theorem T4:Sh.AX sA.ps.length (Ag sA) (toN [2])=false:=Sh.LN [2] Gm (by decide)
theorem NG:AZ sA.ps.length [2]=true:=by decide +kernel
theorem X0:Sh.A4 lA=[(0,1,2/5),(0,2,3/5),(1,0,1/2)]:=by decide +kernel
theorem WB:Sh.ev sA [2] 0=ofQ 3 4/\Sh.ev sA [2] 1=ofQ 3 8:=by
 have h:=Sh.We (F:=[2]) Gm T4;have e1:sA.ps.length=3:=rfl;have e2:toN [2]=[2]:=rfl;have e3:sA.cap=lA:=rfl;rw[e1,e2,e3,X0]at h;have h3:=h.listed 2 (by simp);have h0:=h.sum 0 (by omega) (by simp);have h1:=h.sum 1 (by omega) (by simp);simp[Sh.AB]at h0 h1;have a0:ofQ 3 4=3/4:=by decide +kernel
 have a1:ofQ 3 8=3/8:=by decide +kernel
 rw[a0,a1];refine⟨?_,?_⟩<;>grind
theorem XR:Co.VT sA=[(0,1,2400),(0,2,3600),(1,0,3000)]:=by kernel_rfl
theorem WC:Co.rd (Co.VT sA) (toN [2]) 0=1/\Co.rd (Co.VT sA) (toN [2]) 1=-1:=by
 rw[XR,show toN [2]=[2] from rfl];refine⟨Co.SX (.inr ⟨1,rfl,by decide,fun j h=>?_⟩),Co.SX (.inl ⟨rfl,fun k=>?_⟩)⟩
 .obtain rfl:j=0:=by omega
  decide
 cases hc:Co.inR [(0,1,2400),(0,2,3600),(1,0,3000)] [2] k 1
 .rfl
 have h:=Co.Qa (n:=3) (S:=fun q=>decide (q≠1)) (V:=[(0,1,2400),(0,2,3600),(1,0,3000)]) (F:=[2]) (by unfold Co.VIn;decide) (by decide) (by decide) k 1 (by decide) hc;simp at h
theorem T5:BD [⟨#[112]⟩] sA.ps sA.ps.length=[2]:=by decide +kernel
theorem X1{b:Bool}{f:Int}(h:OwnR sA [⟨#[112]⟩] ⟨#[98]⟩ 38 b f):b=false/\f=0:=by
 have e0:Gl sA [2]=0:=by
  unfold Gl;rw[zD ⟨Gm,NG⟩,zC (by rw[T4];decide)]
 have k:OwnR sA [⟨#[112]⟩] ⟨#[98]⟩ 38 false 0:=by
  refine .inr ⟨by rw[T5];exact e0,rfl,.inr ⟨1,by decide,rfl,fun j hj h=>?_,?_⟩⟩
  .obtain rfl:j=0:=by omega
   exact(by decide +kernel:(⟨#[97]⟩:ByteArray)≠⟨#[98]⟩)
  rw[T5,WB.2,WC.2];decide +kernel
 exact h.unique k
theorem JQ(l m:List ByteArray)(A B:Option Addr)(c d:Nat)(w:World)(hl:InStr w A l)(hm:InStr w B m)(ar:l.length<=140737488355328)(au:m.length<=140737488355328):
 Calls prog 19 #[.slice A l.length c,.slice B m.length d] w fun e w'=>e=.returned (.bool (decide (l=m)))/\Below w.heap.size w w':=by
 have ah:Hid (l.length≠m.length->decide (l=m)=false):=fun n=>zH fun e=>n (by rw[e]);have al:Hid (∀k (h:k<l.length) (h2:k<m.length),l[k]≠m[k]->decide (l=m)=false):=fun k h h2 n=>zH fun e=>n (by subst e;rfl);have ai:Hid (l.length=m.length->(∀k (h:k<l.length) (h2:k<m.length),l[k]=m[k])->decide (l=m)=true):=fun e q=>zG (List.ext_getElem e q);generalize decide (l=m)=R at ah al ai;replace hl:=zh hl;replace hm:=zh hm
 by_cases hlen:l.length=m.length
 .have m1:((l.length:Int) != (m.length:Int))=false:=bne_eq_false_iff_eq.2 (by omega);have m2:l.length=m.length:=hlen;obtain⟨n,hn⟩:∃n,n=l.length:=⟨_,rfl⟩;have aj:n=m.length:=by omega
  have am:=zh (ai.o hlen);have ap:Hid (n=l.length):=hn;have av:Hid (n=m.length):=aj;have ay:n<=140737488355328:=by omega
  rw[<-hn,<-aj];clear m1 m2 hlen hn aj ah ai ar au;go_enter func19,ntmps19;go_wp2
  go_loopw [5] (fun i wr=>∃k:Nat,k<=n/\i=.int .i64 (k:Int)/\Hid (Below w.heap.size w wr)/\Hid (∀j (h:j<l.length) (h2:j<m.length),j<k->l[j]=m[j])) (fun i _=>n-(intOf i).toNat)
  case atStart=>exact⟨0,zQ _,rfl,zI _ _,fun j _ _ h=>absurd h (yB _)⟩
  case round=>
   obtain⟨k,hk,rfl,hB,hI⟩:=hrel;obtain⟨wz,rfl⟩:∃z,z=wr:=⟨_,rfl⟩
   by_cases hlt:k<n
   .have ab:k<l.length:=by have:=ap.o;omega
    have ad:k<m.length:=by have:=av.o;omega
    obtain⟨b,off,rfl,an,ao⟩:=hl.o (by omega);obtain⟨b2,off2,rfl,ae,af⟩:=hm.o (by omega);have e0:=(hB.o.cell (p:=⟨b,_,none⟩) an).trans (ao k ab);have e1:=(hB.o.cell (p:=⟨b2,_,none⟩) ae).trans (af k ad);have ax:b<wz.heap.size:=zJ an hB.o.size;have aw:b2<wz.heap.size:=zJ ae hB.o.size;have ak:Hid (∀q,Below w.heap.size w (wz.drewN q)):=fun q=>hB.o.trans ⟨rfl,rfl,rfl,zB _,fun _ _=>rfl⟩;have aa:=al.o k ab ad
    have ag:Hid (l[k]=m[k]->∀j (h:j<l.length) (h2:j<m.length),j<k+1->l[j]=m[j]):=fun h j hj aq h2=>by
     by_cases e:j=k
     .subst e;exact h
     exact hI.o j hj aq (by omega)
    have k0:(0:Int)<=(k:Int):=by omega
    have k1:(k:Int)<(n:Int):=by omega
    clear ao af;generalize l[k]=x at e0 aa ag;generalize m[k]=y at e1 aa ag;replace ab:=zh ab;replace ad:=zh ad
    by_cases c:x=y
    .have m1:(x.toList==y.toList)=true:=(@Bh x y).trans (zG c);have hN:=zh (ag.o c);replace c:=zh c;replace aa:=zh aa;go_wp2
     go_quiet (fail)
     go_wp2;exact⟨⟨k+1,by omega,by go_num,ak.o _,hN⟩,by simp only[intOf];omega⟩
    have hQ:=zh (aa c);have m1:(x.toList==y.toList)=false:=(@Bh x y).trans (zH c);replace c:=zh c;replace aa:=zh aa;go_wp2
    go_quiet (fail)
    go_wp2;go_ret;exact⟨Ad hQ.o.symm,ak.o _⟩
   obtain rfl:k=n:=by omega
   have hQ:=zh (am.o fun j h h2=>hI.o j h h2 (by have:=ap.o;omega));go_wp2;go_ret;exact⟨Ad hQ.o.symm,hB.o⟩
 have hQ:=zh (ah.o hlen);have m1:((l.length:Int) != (m.length:Int))=true:=bne_iff_ne.2 (by omega);go_enter func19,ntmps19;go_wp2;go_ret;exact⟨Ad hQ.o.symm,zI _ _⟩
theorem T6(q:Rat):∃g n d,qv q=.agg #[.bool g,.string n,.string d]:=⟨_,_,_,rfl⟩
theorem Gn(m n:Int)(w:World)(hE:Env w)(ah:-9223372036854775808<=m)(ai:m<=9223372036854775807)(aj:-9223372036854775808<=n)(ak:n<=9223372036854775807)(h0:n≠0):
 Calls prog 20 #[.int .i64 m,.int .i64 n] w fun e w'=>e=.returned (qv (ofQ m n))/\Below w.heap.size w w':=by
 obtain⟨g,x,d,q0⟩:=T6 (ofQ m n);have ab:Hid (Below w.heap.size w (w.alloc (.cells #[.bool false,.string ⟨#[]⟩,.string ⟨#[]⟩] 48))):=(zI _ w).alloc (zB _) _;have ae:Hid (Bk (w.alloc (.cells #[.bool false,.string ⟨#[]⟩,.string ⟨#[]⟩] 48)) w.heap.size 48 [.bool false,.string ⟨#[]⟩,.string ⟨#[]⟩]):=Bk.new w _ _
 have ko:Hid (Calls prog 56 #[.int .i64 m,.int .i64 n] (w.alloc (.cells #[.bool false,.string ⟨#[]⟩,.string ⟨#[]⟩] 48)) fun e w'=>e=.returned (.tuple #[.agg #[.bool g,.string x,.string d],.int .i64 0])/\Below (w.alloc (.cells #[.bool false,.string ⟨#[]⟩,.string ⟨#[]⟩] 48)).heap.size (w.alloc (.cells #[.bool false,.string ⟨#[]⟩,.string ⟨#[]⟩] 48)) w'):=by
  have h:=EY m n ah ai aj ak h0 _ (hE.below ab.o);rw[q0]at h;exact h
 rw[q0];clear hE;go_enter func20,ntmps20
 go_wp2_with fail
 refine ko.o.q fun w2 hb=>?_;have af:=ab.t hb;have aa:=zh (ae.o.below hb);clear hb ab ae ko;have r0:=aa.o.c0;have r1:=aa.o.c1;have r2:=aa.o.c2;have f0:=aa.o.frozen 0;have f1:=aa.o.frozen 1;have f2:=aa.o.frozen 2;have r9:=aa.o.lt
 have ag:Hid (Below w.heap.size w ((((w2.setCell ⟨w.heap.size,0,none⟩ (.bool g)).setCell ⟨w.heap.size,1,none⟩ (.string x)).setCell ⟨w.heap.size,2,none⟩ (.string d)).alloc (.cells #[.bool g,.string x,.string d] 48))):=by
  have h:=((af.o.setCell (p:=⟨w.heap.size,0,none⟩) (zB _) (.bool g)).setCell (p:=⟨w.heap.size,1,none⟩) (zB _) (.string x)).setCell (p:=⟨w.heap.size,2,none⟩) (zB _) (.string d);exact h.alloc h.size _
 have ad:Hid (Bk ((((w2.setCell ⟨w.heap.size,0,none⟩ (.bool g)).setCell ⟨w.heap.size,1,none⟩ (.string x)).setCell ⟨w.heap.size,2,none⟩ (.string d)).alloc (.cells #[.bool g,.string x,.string d] 48)) w.heap.size 48 [.bool g,.string x,.string d]):=(((aa.o.set 0 (.bool g)).set 1 (.string x)).set 2 (.string d)).alloc _;go_wp2
 (try simp only[Exit.inBlock,Exit.then])
 have s0:=ad.o.c0;have s1:=ad.o.c1;have s2:=ad.o.c2;have s9:=ad.o.lt;refine zm (v:=.agg #[.bool g,.string x,.string d]) (by simp[results,results20,go_sem,s0,s1,s2]) rfl ⟨rfl,ag.o⟩
theorem T7{W:World}{b:Nat}{t:TypeId}{x y z:List Value}(h:Bk W b t (x++(y++z)))(lx:x.length=10)(ly:y.length=10):
 (∀i v,x[i]? = some v->W.cell? ⟨b,0+0*10+i,none⟩=some v)/\(∀i v,y[i]? = some v->W.cell? ⟨b,0+1*10+i,none⟩=some v)/\∀i v,z[i]? = some v->W.cell? ⟨b,0+2*10+i,none⟩=some v:=by
 have lt:∀{l:List Value} {i:Nat} {v:Value},l[i]? = some v->i<l.length:=fun h=>(List.getElem?_eq_some_iff.1 h).1;refine⟨fun i v hv=>?_,fun i v hv=>?_,fun i v hv=>?_⟩
 .rw[show 0+0*10+i=i by omega];exact h.cell (by rw[xO (lt hv)];exact hv)
 .have:=lt hv;rw[show 0+1*10+i=10+i by omega];exact h.cell (by rw[List.getElem?_append_right (by omega),xO (by omega),lx,show 10+i-10=i by omega];exact hv)
 rw[show 0+2*10+i=20+i by omega];exact h.cell (by rw[List.getElem?_append_right (by omega),List.getElem?_append_right (by omega),lx,ly,show 20+i-10-10=i by omega];exact hv)
theorem XS{W:World}{b:Nat}(h:Bk W b 29 [.string ⟨#[104,49]⟩,.string ⟨#[97]⟩,.string ⟨#[112]⟩,.string ⟨#[]⟩,.string ⟨#[]⟩,.slice none 0 0,.int .i64 60,.int .i64 60,.int .i64 0,.int .i64 (-1),.string ⟨#[104,50]⟩,.string ⟨#[98]⟩,.string ⟨#[97]⟩,.string ⟨#[]⟩,.string ⟨#[]⟩,.slice none 0 0,.int .i64 50,.int .i64 50,.int .i64 0,.int .i64 (-1),.string ⟨#[104,51]⟩,.string ⟨#[97]⟩,.string ⟨#[98]⟩,.string ⟨#[]⟩,.string ⟨#[]⟩,.slice none 0 0,.int .i64 40,.int .i64 40,.int .i64 0,.int .i64 (-1)]):InHd W (some ⟨b,0,none⟩) hA:=fun _=>by
 obtain⟨h0,h1,h2⟩:=T7 (x:=hdV (hA[0]'(by decide)) none 0) (y:=hdV (hA[1]'(by decide)) none 0) (z:=hdV (hA[2]'(by decide)) none 0) h rfl rfl;refine⟨b,0,rfl,h.lt,fun j hj=>⟨none,0,?_,?_⟩⟩
 .match j,hj with
  |0,_=>exact fun h=>absurd h (xV 0)
  |1,_=>exact fun h=>absurd h (xV 0)
  |2,_=>exact fun h=>absurd h (xV 0)
  |j+3,hj=>exact absurd hj (by simp[hA])
 match j,hj with
 |0,_=>exact h0
 |1,_=>exact h1
 |2,_=>exact h2
 |j+3,hj=>exact absurd hj (by simp[hA])
theorem X2:∀h∈hA,HdSz h:=by
 intro h hh;simp only[hA,yW,yK,xy]at hh
 rcases hh with rfl|rfl|rfl<;>exact⟨by decide,by decide,by decide,by decide,by decide,by decide,fun x hx=>absurd hx (yK),by decide,by decide,by decide,by decide⟩
theorem UY:Cq 0 [⟨#[112]⟩] ⟨#[98]⟩ 38=true:=by decide +kernel
theorem X3{W:World}{b:Nat}{l:List ByteArray}(h:Bk W b 9 (l.map .string)):InStr W (some ⟨b,0,none⟩) l:=W7 h
theorem X4{W:World}{b:Nat}{l:List Int}(h:Bk W b 3 (l.map (.int .i64))):InInt W (some ⟨b,0,none⟩) l:=fun _=>⟨b,0,rfl,h.lt,fun j hj=>by
 rw[yE];exact h.cell (by simp[hj])⟩
theorem KM(w:World)(hE:Env w):Calls prog 5 #[] w fun e w'=>e=.returned (.bool true)/\Below w.heap.size w w':=by
 have aq:Hid (Below w.heap.size w (w.alloc (.cells #[.string ⟨#[104,49]⟩,.string ⟨#[97]⟩,.string ⟨#[112]⟩,.string ⟨#[]⟩,.string ⟨#[]⟩,.slice none 0 0,.int .i64 60,.int .i64 60,.int .i64 0,.int .i64 (-1),.string ⟨#[104,50]⟩,.string ⟨#[98]⟩,.string ⟨#[97]⟩,.string ⟨#[]⟩,.string ⟨#[]⟩,.slice none 0 0,.int .i64 50,.int .i64 50,.int .i64 0,.int .i64 (-1),.string ⟨#[104,51]⟩,.string ⟨#[97]⟩,.string ⟨#[98]⟩,.string ⟨#[]⟩,.string ⟨#[]⟩,.slice none 0 0,.int .i64 40,.int .i64 40,.int .i64 0,.int .i64 (-1)] 29))):=(zI _ w).alloc (zB _) _;have aA:Hid (InHd (w.alloc (.cells #[.string ⟨#[104,49]⟩,.string ⟨#[97]⟩,.string ⟨#[112]⟩,.string ⟨#[]⟩,.string ⟨#[]⟩,.slice none 0 0,.int .i64 60,.int .i64 60,.int .i64 0,.int .i64 (-1),.string ⟨#[104,50]⟩,.string ⟨#[98]⟩,.string ⟨#[97]⟩,.string ⟨#[]⟩,.string ⟨#[]⟩,.slice none 0 0,.int .i64 50,.int .i64 50,.int .i64 0,.int .i64 (-1),.string ⟨#[104,51]⟩,.string ⟨#[97]⟩,.string ⟨#[98]⟩,.string ⟨#[]⟩,.string ⟨#[]⟩,.slice none 0 0,.int .i64 40,.int .i64 40,.int .i64 0,.int .i64 (-1)] 29)) (some ⟨w.heap.size,0,none⟩) hA):=XS (Bk.new w _ _);have k1:=zh (IA hA (some ⟨w.heap.size,0,none⟩) 3 0 _ (hE.below aq.o) aA.o X2 (by decide));rw[show hA.length=3 from rfl]at k1;replace hE:=zh hE;go_enter func5,ntmps5
 go_wp2_with fail
 refine k1.o.mono ?_;rintro e w2 ⟨aJ,_,aF⟩;obtain⟨s,Ap,Ac,Av,cp,cc,cv,rfl,ag,ao,_⟩:=aJ ⟨OA,by decide⟩;obtain rfl:s=sA:=ag.unique T3;have az:Hid (Below w.heap.size w w2):=aq.o.trans (aF.mono aq.o.size);have aM:=zh (aA.o.below aF);clear k1 aF aA aq aJ ag;have au:Hid (Bk (w2.alloc (.cells #[.slice Ap sA.ps.length cp,.slice Ac sA.cap.length cc,.slice Av sA.vot.length cv] 32)) w2.heap.size 32 (SC sA Ap Ac Av cp cc cv)):=Bk.new _ _ _;have ar:Hid (Below w2.heap.size w2 ((w2.alloc (.cells #[.slice Ap sA.ps.length cp,.slice Ac sA.cap.length cc,.slice Av sA.vot.length cv] 32)).alloc (.cells #[.string ⟨#[97]⟩,.string ⟨#[98]⟩,.string ⟨#[112]⟩] 9))):=((zI _ w2).alloc (zB _) _).alloc (by simp) _;have aY:=zh (au.o.alloc (.cells #[.string ⟨#[97]⟩,.string ⟨#[98]⟩,.string ⟨#[112]⟩] 9))
 have aV:Hid (InStr ((w2.alloc (.cells #[.slice Ap sA.ps.length cp,.slice Ac sA.cap.length cc,.slice Av sA.vot.length cv] 32)).alloc (.cells #[.string ⟨#[97]⟩,.string ⟨#[98]⟩,.string ⟨#[112]⟩] 9)) (some ⟨w2.heap.size+1,0,none⟩) pA):=by
  have h:=X3 (l:=pA) (Bk.new (w2.alloc (.cells #[.slice Ap sA.ps.length cp,.slice Ac sA.cap.length cc,.slice Av sA.vot.length cv] 32)) 9 [.string ⟨#[97]⟩,.string ⟨#[98]⟩,.string ⟨#[112]⟩]);simp only[zX]at h;exact h
 have kt:=zh (JQ sA.ps pA Ap (some ⟨w2.heap.size+1,0,none⟩) cp 3 _ (ao.ps.below ar.o) aV.o (by decide) (by decide));rw[show decide (sA.ps=pA)=true from zG rfl,show pA.length=3 from rfl]at kt;have c0:=au.o.c0;have c9:=au.o.lt;replace ao:=zh ao
 go_wp2_with fail
 refine kt.o.q fun w5 aG=>?_;have af:=zh (aY.o.below aG);have ad:Hid (Below w2.heap.size w2 w5):=ar.o.trans (aG.mono ar.o.size);have ai:Hid (Below w.heap.size w w5):=az.o.trans (ad.o.mono az.o.size);have aE:=zh (ao.o.below ad.o);have aN:=zh (aM.o.below ad.o);clear kt c0 c9 aG au aY aV ar az ad ao aM;have aj:Hid (Below w5.heap.size w5 (w5.alloc (.cells #[.int .i64 2] 3))):=(zI _ w5).alloc (zB _) _;have aK:Hid (InInt (w5.alloc (.cells #[.int .i64 2] 3)) (some ⟨w5.heap.size,0,none⟩) [2]):=X4 (l:=[2]) (Bk.new w5 _ _);have ke:=zh (Sh.SP sA Ap Ac Av (some ⟨w5.heap.size,0,none⟩) cp cc cv 1 [2] _ (hE.o.below (ai.o.trans (aj.o.mono ai.o.size))) (aE.o.below aj.o) (by decide) (by decide) aK.o (by decide));rw[show ([2]:List Int).length=1 from rfl]at ke;have c0:=af.o.c0;have c1:=af.o.c1;have c2:=af.o.c2;have c9:=af.o.lt
 go_wp2_with fail
 refine ke.o.mono ?_;rintro e w7 ⟨h7,aS⟩;rw[zD ⟨Gm,NG⟩]at h7;obtain⟨eb,rfl,_,hR⟩:=h7;have ab:Hid (Below w5.heap.size w5 w7):=aj.o.trans (aS.mono aj.o.size);have ak:Hid (Below w.heap.size w w7):=ai.o.trans (ab.o.mono ai.o.size);have ap:=zh (af.o.below ab.o);have aR:=zh (aE.o.below ab.o);have aO:=zh (aN.o.below ab.o);replace hR:=zh hR;clear ke c0 c1 c2 c9 aS aj aK ai ab af aE aN;have al:Hid (Below w7.heap.size w7 (w7.alloc (.cells #[.int .i64 2] 3))):=(zI _ w7).alloc (zB _) _;have aL:Hid (InInt (w7.alloc (.cells #[.int .i64 2] 3)) (some ⟨w7.heap.size,0,none⟩) [2]):=X4 (l:=[2]) (Bk.new w7 _ _);have ke:=zh (Co.Dw sA Ap Ac Av (some ⟨w7.heap.size,0,none⟩) cp cc cv 1 [2] _ (hE.o.below (ak.o.trans (al.o.mono ak.o.size))) (aR.o.below al.o) (by decide) (by decide) aL.o (by decide));rw[show ([2]:List Int).length=1 from rfl]at ke;have c0:=ap.o.c0;have c1:=ap.o.c1;have c2:=ap.o.c2;have c9:=ap.o.lt
 go_wp2_with fail
 refine ke.o.mono ?_;rintro e w9 ⟨h9,aT⟩;rw[zD ⟨Gm,NG⟩]at h9;obtain⟨rb,rfl,_,hO⟩:=h9;have ae:Hid (Below w7.heap.size w7 w9):=al.o.trans (aT.mono al.o.size);have am:Hid (Below w.heap.size w w9):=ak.o.trans (ae.o.mono ak.o.size);have aP:=zh (aO.o.below ae.o);have aD:=zh (hR.o.below ae.o hR.o.lt);replace hO:=zh hO;clear ke c0 c1 c2 c9 aT al aL ak ae ap aR aO hR;have aa:Hid (Below w9.heap.size w9 (w9.alloc (.cells #[.string ⟨#[112]⟩] 9))):=(zI _ w9).alloc (zB _) _;have aw:Hid (InStr (w9.alloc (.cells #[.string ⟨#[112]⟩] 9)) (some ⟨w9.heap.size,0,none⟩) [⟨#[112]⟩]):=X3 (l:=[⟨#[112]⟩]) (Bk.new w9 _ _);have ke:=zh (GG hA (some ⟨w.heap.size,0,none⟩) 3 0 [⟨#[112]⟩] (some ⟨w9.heap.size,0,none⟩) 1 ⟨#[98]⟩ 38 _ (hE.o.below (am.o.trans (aa.o.mono am.o.size))) (aP.o.below aa.o) X2 (by decide) aw.o (by intro x hx;rw[List.mem_singleton.1 hx];decide) (by decide) (by decide));rw[show hA.length=3 from rfl,show ([⟨#[112]⟩]:List ByteArray).length=1 from rfl]at ke
 go_wp2_with fail
 refine ke.o.mono ?_;rintro e av ⟨aZ,_,ay⟩;obtain⟨s,b,f,rfl,ag,aQ⟩:=aZ ⟨OA,UY⟩;obtain rfl:s=sA:=ag.unique T3;obtain⟨rfl,rfl⟩:=X1 aQ;have d:Hid (Below w9.heap.size w9 av):=aa.o.trans (ay.mono aa.o.size);have ah:Hid (Below w.heap.size w av):=am.o.trans (d.o.mono am.o.size);have an:=zh (aD.o.below d.o aD.o.lt);have ax:=zh (hO.o.below d.o);clear ke ay aa aw am d aP aD hO ag aQ;obtain⟨g1,n1,d1,aH⟩:=T6 (ofQ 3 4);obtain⟨g2,n2,d2,aI⟩:=T6 (ofQ 3 8);have kr:Hid (∀W,Env W->Calls prog 20 #[.int .i64 3,.int .i64 4] W fun e w'=>e=.returned (.agg #[.bool g1,.string n1,.string d1])/\Below W.heap.size W w'):=fun W hW=>by rw[<-aH];exact Gn 3 4 W hW (by omega) (by omega) (by omega) (by omega) (by omega)
 have ks:Hid (∀W,Env W->Calls prog 20 #[.int .i64 3,.int .i64 8] W fun e w'=>e=.returned (.agg #[.bool g2,.string n2,.string d2])/\Below W.heap.size W w'):=fun W hW=>by rw[<-aI];exact Gn 3 8 W hW (by omega) (by omega) (by omega) (by omega) (by omega)
 have aW:rq (Sh.ev sA [2] 0)=(g1,n1,d1):=by
  rw[WB.1];injection aH with h;injection h with h;simp at h;obtain⟨rfl,rfl,rfl⟩:=h;rfl
 have aX:rq (Sh.ev sA [2] 1)=(g2,n2,d2):=by
  rw[WB.2];injection aI with h;injection h with h;simp at h;obtain⟨rfl,rfl,rfl⟩:=h;rfl
 have HS:Hid (∀W,Below av.heap.size av W->W.cell? ⟨eb,0,none⟩=some (.bool g1)/\W.cell? ⟨eb,1,none⟩=some (.string n1)/\W.cell? ⟨eb,2,none⟩=some (.string d1)/\W.cell? ⟨eb,3,none⟩=some (.bool g2)/\W.cell? ⟨eb,4,none⟩=some (.string n2)/\W.cell? ⟨eb,5,none⟩=some (.string d2)/\eb<W.heap.size /\
  W.cell? ⟨rb,0,none⟩=some (.int .i64 1)/\W.cell? ⟨rb,1,none⟩=some (.int .i64 (-1))/\rb<W.heap.size/\Env W):=fun W hW=>by
  have aC:=an.o.below hW an.o.lt;have aB:=ax.o.below hW;obtain⟨c0,c1,c2⟩:=aC.cell (j:=0) (by decide);obtain⟨d0,d1',d2'⟩:=aC.cell (j:=1) (by decide);have o0:=aB.cell 0 (by decide);have o1:=aB.cell 1 (by decide);rw[aW]at c0 c1 c2;rw[aX]at d0 d1' d2';rw[WC.1]at o0;rw[WC.2]at o1;exact⟨c0,c1,c2,d0,d1',d2',aC.lt,o0,o1,aB.lt,(hE.o.below ah.o).below hW⟩
 clear aW aX an ax aH aI;have a1:sA.ps.length=3:=rfl;rw[a1]
 go_wp2_with fail
 refine Sh.Ge (by kernel_rfl) (by kernel_rfl) ?_
 repeat (
  with_reducible refine wpQuiet_step (fun K hK=>?_)
  first
   |(refine Vx (by rfl) ?_;refine hK _ ?_;clear hK K;(try simp only[Act.put,zA,zF,zE]))
   |(refine Vy (by rfl) ?_
     go_simp;apply Exists.intro;refine⟨fun W hW=>?_,hK _ ?_⟩
     first
      |(with_reducible exact Sh.EK hW (kr.o W (HS.o W hW).2.2.2.2.2.2.2.2.2.2))
      |(with_reducible exact Sh.EK hW (ks.o W (HS.o W hW).2.2.2.2.2.2.2.2.2.2))
      |(obtain⟨q1,q2,q3,q4,q5,q6,q7,q8,q9,a2,_⟩:=HS.o W hW;go_simp<;>with_reducible rfl)
     clear hK K))
 refine wpQuiet_nil ?_;intro wf aU;have a0:Hid (Below w.heap.size w wf):=ah.o.trans (aU.mono ah.o.size);clear aU HS;go_wp2;go_ret;exact⟨rfl,a0.o⟩
theorem NH(s:SR)(Ap Ac Av:Option Addr)(cp cc cv:Nat)(nm:List ByteArray)(Al:Option Addr)(cl:Nat)(w:World)(hs:StIn w s Ap Ac Av)(ay:s.ps.length<=60)(hn:InStr w Al nm)(av:nm.length<=140737488355328):
 Calls prog 11 #[.agg #[.slice Ap s.ps.length cp,.slice Ac s.cap.length cc,.slice Av s.vot.length cv],.slice Al nm.length cl] w fun e w' =>
  (∃A c,e=.returned (.slice A (BD nm s.ps s.ps.length).length c)/\InInt w' A (BD nm s.ps s.ps.length))/\Below w.heap.size w w':=by
 have ap:Hid (Bk (w.alloc (.cells #[.slice Ap s.ps.length cp,.slice Ac s.cap.length cc,.slice Av s.vot.length cv] 32)) w.heap.size 32 (SC s Ap Ac Av cp cc cv)):=Bk.new _ _ _;have af:Hid (Below w.heap.size w (w.alloc (.cells #[.slice Ap s.ps.length cp,.slice Ac s.cap.length cc,.slice Av s.vot.length cv] 32))):=(zI _ w).alloc (zB _) _;obtain⟨w1,ad⟩:∃q,q=w.alloc (.cells #[.slice Ap s.ps.length cp,.slice Ac s.cap.length cc,.slice Av s.vot.length cv] 32):=⟨_,rfl⟩;have am:Hid (w1.ownsRow w1.heap.size 3 1 (.slice none 0 0) 0 ((BD nm s.ps 0).map (.int .i64))):=yO _ _ _ _;rw[<-ad]at ap af;have al:Hid (Below w1.heap.size w1 w1):=zI _ _;obtain⟨i0,hi,ai,aj,ak⟩:=wZ FG;replace hi:=zh hi;replace ai:=zh ai;replace aj:=zh aj;replace ak:=zh ak;replace hs:=zh hs;replace hn:=zh hn;go_enter func11,ntmps11;go_wp2;rw[<-ad];replace ad:=zh ad
 go_loopw [6,5] (fun i o wr=>∃(k n:Nat)(Aw:Option Addr)(cw:Nat),k<=s.ps.length/\i=.int .i64 (k:Int)/\o=.slice Aw n cw/\n=(BD nm s.ps k).length/\Hid (wr.ownsRow w1.heap.size 3 1 (.slice Aw n cw) n ((BD nm s.ps k).map (.int .i64)))/\Hid (Below w1.heap.size w1 wr)) (fun i _ _=>s.ps.length-(intOf i).toNat)
 case atStart=>exact⟨0,0,none,0,zQ _,rfl,rfl,rfl,am,al⟩
 case round=>
  obtain⟨k,n,Aw,cw,hk,rfl,rfl,aa,hO,hB⟩:=hrel;clear am al;have aw:n<=60:=by have:=Gk nm s.ps k;omega
  replace aa:=zh aa;obtain⟨wz,rfl⟩:∃z,z=wr:=⟨_,rfl⟩;have ae:Hid (Below w.heap.size w wz):=af.o.trans (hB.o.mono af.o.size);have aq:=zh (ap.o.below hB.o);have x0:=aq.o.c0;have xl:=aq.o.lt
  by_cases hlt:k<s.ps.length
  .obtain ⟨b,off,rfl,ax,ao⟩:=hs.o.ps.below ae.o (by omega);have e0:=ao k hlt;have ab:=JO (nm:=nm) hlt;have k0:(0:Int)<=(k:Int):=by omega
   have k1:(k:Int)<(s.ps.length:Int):=by omega
   have kc:=zh (UW nm Al cl s.ps[k] wz (hn.o.below ae.o) av);generalize s.ps[k]=na at e0 ab kc;clear ao;replace ab:=zh ab;obtain⟨d,hd⟩:∃q,q=decide (na∈nm):=⟨_,rfl⟩;rw[<-hd]at kc;replace hd:=zh hd
   go_wp2_with fail
   refine kc.o.mono ?_;rintro e w5 ⟨rfl,rfl⟩;clear kc e0 x0 xl
   cases d with
   |false=>
    have h:Hid (BD nm s.ps (k+1)=BD nm s.ps k):=zh (by rw[ab.o,zC (zu hd.o.symm),xN]);go_wp2;exact⟨⟨k+1,n,Aw,cw,by omega,by go_num,by go_num,by rw[h.o];exact aa.o,by rw[h.o];exact hO,hB⟩,by simp only[intOf];omega⟩
   |true=>
    have h:Hid (BD nm s.ps (k+1)=BD nm s.ps k++[(k:Int)]):=zh (by rw[ab.o,zD (zL hd.o.symm)]);have an:Hid ((w5.alloc (.cells #[.int .i64 (k:Int)] 3)).ownsRow w1.heap.size 3 1 (.slice Aw n cw) n ((BD nm s.ps k).map (.int .i64))):=hO.o.alloc _;have ag:Hid (Below w1.heap.size w1 (w5.alloc (.cells #[.int .i64 (k:Int)] 3))):=hB.o.alloc hB.o.size _
    have ah:Hid (∀(A9:Option Addr)(c9:Nat)(wb:World),wb.ownsRow w1.heap.size 3 1 (.slice A9 (n+1) c9) (n+1) ((BD nm s.ps k).map (.int .i64)++[.int .i64 (k:Int)])->(w5.alloc (.cells #[.int .i64 (k:Int)] 3)).grownBy wb (Value.slice Aw n cw).ownBlock ->
     wb.ownsRow w1.heap.size 3 1 (.slice A9 (n+1) c9) (n+1) ((BD nm s.ps (k+1)).map (.int .i64))/\Below w1.heap.size w1 wb/\n+1=(BD nm s.ps (k+1)).length):=fun A9 c9 wb h1 h2=>
     ⟨by rw[h.o,zw];exact h1,ag.o.grown h2 ag.o.size fun b e=>(an.o.lt b e).1,by rw[h.o,zV,<-aa.o];rfl⟩
    have ar:Hid (w1.heap.size<=(w5.alloc (.cells #[.int .i64 (k:Int)] 3)).heap.size):=ag.o.size
    go_wp2_with (at_builtin;refine Ci.wpList_append_new _ rfl _ _ 37 rfl w1.heap.size 3 i0 (.int .i64 0) 1 8 underlying37 hi.o ai.o aj.o ak.o rfl (by decide) (.slice Aw n cw) n _ rfl an.o ⟨w5.heap.size,0,none⟩ 1 1 [.int .i64 (k:Int)] rfl rfl (Ci.BH _ _ _) (Ci.AM _ rfl) (by decide) (by unfold maxLen;omega) (by omega) ar.o ?_;intro vb wb ho hg au;obtain⟨A9,c9,rfl⟩:=Ci.CK ho;obtain⟨q1,q2,q3⟩:=ah.o A9 c9 wb ho hg;replace q1:=zh q1;replace q2:=zh q2;replace q3:=zh q3;clear ho hg au)
    exact⟨⟨k+1,n+1,A9,c9,by omega,by go_num,by go_num,q3.o,q1,q2⟩,by simp only[intOf];omega⟩
  obtain rfl:k=s.ps.length:=by omega
  have hF:=zh (JP hO.o);go_wp2;go_ret;exact⟨⟨Aw,cw,by rw[aa.o];rfl,hF.o⟩,ae.o⟩
def IsRow(V:List Value)(l:List Hd)(F:Nat->Option Addr×Nat):Prop:=V.length=l.length*10/\∀j (hj:j<l.length) i,i<10->V[j*10+i]? = (hdV l[j] (F j).1 (F j).2)[i]?
theorem KN(h:Hd)(A:Option Addr)(c:Nat):(hdV h A c).length=10:=rfl
theorem T8{W:World}{A:Option Addr}{l:List Hd}(h:InHd W A l)(h0:0<l.length):∃b off V F,A=some ⟨b,off,none⟩/\b<W.heap.size/\IsRow V l F/\(∀j (hj:j<l.length),InStr W (F j).1 l[j].jo)/\∀t u,V[t]? = some u->W.cell? ⟨b,off+t,none⟩=some u:=by
 obtain⟨b,off,e,hb,hc⟩:=h h0
 have d:∀j:Nat,∃p:Option Addr×Nat,∀(hj:j<l.length),InStr W p.1 l[j].jo/\∀i v,(hdV l[j] p.1 p.2)[i]? = some v->W.cell? ⟨b,off+j*10+i,none⟩=some v:=fun j=>by
  by_cases hj:j<l.length
  .obtain⟨Aj,cj,h1,h2⟩:=hc j hj;exact⟨(Aj,cj),fun _=>⟨h1,h2⟩⟩
  exact⟨(none,0),fun h=>absurd h hj⟩
 obtain⟨F,hF⟩:=Classical.skolem.1 d
 have hR:IsRow ((List.range (l.length*10)).map fun t=>(((l[t/10]?).bind fun h=>(hdV h (F (t/10)).1 (F (t/10)).2)[t%10]?)).getD undef) l F:=by
  refine⟨by simp,fun j hj i hi=>?_⟩;rw[xq,List.getElem?_range (by omega),Option.map_some];simp only[show (j*10+i)/10=j by omega,show (j*10+i)%10=i by omega,zj hj,Option.bind_some];rw[zj (by rw[KN];exact hi)];rfl
 refine⟨b,off,_,F,e,hb,hR,fun j hj=>(hF j hj).1,fun t u hu=>?_⟩;have ht:t<l.length*10:=by have:=(List.getElem?_eq_some_iff.1 hu).1;simpa using this
 have hj:t/10<l.length:=by omega
 have h1:=hR.2 (t/10) hj (t%10) (by omega);rw[show t/10*10+t%10=t by omega]at h1;have h2:=(hF (t/10) hj).2 (t%10) u (by rw[<-h1];exact hu)
 rwa [show off+t/10*10+t%10=off+t by omega]at h2
theorem IsRow.set{V:List Value}{l:List Hd}{F:Nat->Option Addr×Nat}(h:IsRow V l F){k:Nat}(hk:k<l.length){p:Nat}(hp:p<10){u:Value}{h':Hd}(e:∀A c,(hdV l[k] A c).set p u=hdV h' A c):IsRow (V.set (k*10+p) u) (l.set k h') F:=by
 refine⟨by rw[List.length_set,List.length_set];exact h.1,fun j hj i hi=>?_⟩;have d:j<l.length:=by rw[List.length_set]at hj;exact hj
 by_cases ej:j=k
 .subst ej;rw[List.getElem_set_self,<-e]
  by_cases ei:i=p
  .subst ei;rw[List.getElem?_set_self (by rw[h.1];omega),List.getElem?_set_self (by rw[KN];exact hi)]
  rw[List.getElem?_set_ne (by omega),List.getElem?_set_ne (fun c=>ei c.symm),h.2 j d i hi]
 rw[List.getElem_set_ne (fun c=>ej c.symm),List.getElem?_set_ne (by omega),h.2 j d i hi]
theorem IsRow.snoc{V:List Value}{l:List Hd}{F:Nat->Option Addr×Nat}(h:IsRow V l F)(y:Hd)(A:Option Addr)(c:Nat):IsRow (V++hdV y A c) (l++[y]) fun j=>if j=l.length then (A,c) else F j:=by
 refine⟨by rw[zV,zV,h.1,KN,yS];rfl,fun j hj i hi=>?_⟩;rw[zV,xU]at hj
 by_cases ej:j=l.length
 .subst ej;simp only[zD];rw[List.getElem?_append_right (by rw[h.1];omega),h.1,show l.length*10+i-l.length*10=i by omega,List.getElem_append_right (zB _)];simp
 have d:j<l.length:=by omega
 simp only[zC ej];rw[xO (by rw[h.1];omega),h.2 j d i hi,List.getElem_append_left d]
theorem UZ{W:World}{g cap base n:Nat}{l:List Hd}{V:List Value}{F:Nat->Option Addr×Nat}(ho:W.ownsRow base 29 10 (.slice (some ⟨g,0,none⟩) n cap) n V)(hr:IsRow V l F)(hs:∀j (hj:j<l.length),InStr W (F j).1 l[j].jo):InHd W (some ⟨g,0,none⟩) l:=fun _=>by
 obtain ⟨cur,hg,hc⟩:∃cur,W.heap[g]? = some cur/\∀t u,V[t]? = some u->W.cell? ⟨g,t,none⟩=some u:=by
  rcases ho.2 with⟨h,_⟩|⟨g',cap',cur,h,_,hg,_⟩
  .cases h
  injection h with h;injection h with h;injection h with h;subst h;exact⟨_,hg,fun t u hu=>by have:=ho.cells (g:=g) rfl t u hu;rwa [Dn,yE]at this⟩
 refine⟨g,0,rfl,(Array.getElem?_eq_some_iff.1 hg).1,fun j hj=>⟨(F j).1,(F j).2,hs j hj,fun i v hv=>?_⟩⟩;have hi:i<10:=(List.getElem?_eq_some_iff.1 hv).1;rw[show 0+j*10+i=j*10+i by omega];exact hc _ _ (by rw[hr.2 j hj i hi];exact hv)
theorem X5:(prog.info? 29).map (fun i=>(i.zero,i.size,i.bytes))=some (some (.agg #[.string ⟨#[]⟩,.string ⟨#[]⟩,.string ⟨#[]⟩,.string ⟨#[]⟩,.string ⟨#[]⟩,.slice none 0 0,.int .i64 0,.int .i64 0,.int .i64 0,.int .i64 0]),10,136):=by kernel_rfl
theorem IsRow.one{V:List Value}{l:List Hd}{F:Nat->Option Addr×Nat}(h:IsRow V l F):∀u∈V,u.oneCell'=true:=fun u hu=>by
 obtain⟨t,ht,rfl⟩:=zg hu;have d:t<l.length*10:=by rw[<-h.1];exact ht
 have hj:t/10<l.length:=by omega
 have h1:=h.2 (t/10) hj (t%10) (by omega);rw[show t/10*10+t%10=t by omega,zj ht]at h1;have h2:=List.mem_of_getElem? h1.symm;simp only[hdV,yW,yK,xy]at h2
 rcases h2 with e|e|e|e|e|e|e|e|e|e<;>rw[e]<;>rfl
theorem T9{W:World}{base n m c:Nat}{v:Value}{xs V:List Value}{ad:Addr}(d:W.ownsRow base 29 10 v n xs)(hV:V.length=m*10)(hc:∀j u,V[j]? = some u->W.cell? (ad.add j)=some u)(h1:∀u∈V,u.oneCell'=true)(hm:0<m)(hs:n+m<=1000000)(hb:base<=W.heap.size):
 ∃g cap w',(Builtin.append_ #[22,22] 22 #[v,.slice (some ad) m c]).run prog W=.ok (.slice (some ⟨g,0,none⟩) (n+m) cap) w'/\w'.ownsRow base 29 10 (.slice (some ⟨g,0,none⟩) (n+m) cap) (n+m) (xs++V)/\W.grownBy w' v.ownBlock/\(v.ownBlock=some g\/g=W.heap.size)/\g<w'.heap.size:=by
 obtain⟨i,hi,h⟩:=Option.map_eq_some_iff.1 X5;simp only[Prod.mk.injEq]at h;obtain⟨hz,aa,hy⟩:=h;exact run_append_lies W 22 22 base 29 i _ 10 136 underlying22 hi hz aa hy rfl (by decide) v n xs d ad m c V hV hc h1 hm (by unfold maxLen;omega) (by omega) hb _ rfl
def np:ByteArray:=⟨#[110,101,119,95,112,97,114,116]⟩
def h1(h:Hd):Hd:={ h with ca:=h.ca.tdiv 3,vo:=h.vo.tdiv 2 }
def h2(h:Hd):Hd:={ h with id:=np,ca:=h.ca-h.ca.tdiv 3,vo:=h.vo-h.vo.tdiv 2 }
theorem X6:Ak np=true:=by decide +kernel
theorem DX{a:Int}(h:Cr a){n:Int}(hn:n=2\/n=3):0<=a.tdiv n/\a.tdiv n<=a:=by
 obtain⟨h1,h2⟩:=h;rw[Int.tdiv_eq_ediv_of_nonneg h1]
 rcases hn with rfl|rfl<;>omega
theorem OB{h:Hd}(hp:Proper h):Parts h (h1 h) (h2 h):=by
 have hc:=DX hp.2.2.2.2.1 (n:=3) (.inr rfl);have hv:=DX hp.2.2.2.2.2.1 (n:=2) (.inl rfl);exact⟨⟨rfl,rfl,rfl,rfl,rfl,rfl,rfl⟩,⟨rfl,rfl,rfl,rfl,rfl,rfl,rfl⟩,⟨by show h.ca=h.ca.tdiv 3+(h.ca-h.ca.tdiv 3);omega,hc.1,by show 0<=h.ca-h.ca.tdiv 3;omega⟩,⟨by show h.vo=h.vo.tdiv 2+(h.vo-h.vo.tdiv 2);omega,hv.1,by show 0<=h.vo-h.vo.tdiv 2;omega⟩⟩
def Dy(l:List Hd)(k:Nat)(h:k<l.length):List Hd:=l.set k (h1 l[k])++[h2 l[k]]
theorem DY(l:List Hd)(k:Nat)(h:k<l.length):(Dy l k h).length=l.length+1:=by unfold Dy;simp
theorem OC(l:List Hd)(k:Nat)(h:k<l.length):Dy l k h=l.take k++h1 l[k]::(l.drop (k+1)++[h2 l[k]]):=by
 unfold Dy;rw[List.set_eq_take_append_cons_drop,zD h,xT,yi]
theorem OD(l:List Hd)(k:Nat)(h:k<l.length):l.take k++l[k]::l.drop (k+1)=l:=by
 rw[<-wD h,yo]
theorem Va{l:List Hd}{k:Nat}(h:k<l.length)(hv:Valid l)(hz:∀x∈l,HdSz x):∀x∈Dy l k h,HdSz x:=fun x hx=>by
 have hp:Proper l[k]:=(hv.1 k h).1;have hq:=hz l[k] (zN h);obtain⟨z0,z1,z2,z3,z4,z5,z6,z7,z8,z9,zt⟩:=hq;have p1:=hp.2.2.2.2.1;have p2:=hp.2.2.2.2.2.1;have hc:=DX p1 (n:=3) (.inr rfl);have d:=DX p2 (n:=2) (.inl rfl);unfold Cr at p1 p2;unfold Dy at hx
 rcases List.mem_append.1 hx with hx|hx
 .rcases List.mem_or_eq_of_mem_set hx with hx|rfl
  .exact hz x hx
  exact⟨z0,z1,z2,z3,z4,z5,z6,(by show _<=l[k].ca.tdiv 3/\l[k].ca.tdiv 3<=_;omega),(by show _<=l[k].vo.tdiv 2/\l[k].vo.tdiv 2<=_;omega),z9,zt⟩
 rw[List.mem_singleton.1 hx];exact⟨(by show np.size<=_;decide),z1,z2,z3,z4,z5,z6,(by show _<=l[k].ca-l[k].ca.tdiv 3/\l[k].ca-l[k].ca.tdiv 3<=_;omega),(by show _<=l[k].vo-l[k].vo.tdiv 2/\l[k].vo-l[k].vo.tdiv 2<=_;omega),z9,zt⟩
theorem NI{l:List Hd}{k:Nat}(h:k<l.length)(hv:Valid l)(hn:np∉l.map Hd.id)(hl:l.length<400):Valid (Dy l k h):=by
 rw[OC];have e:=OD l k h;have hp:Proper l[k]:=(hv.1 k h).1;exact Valid.split (OB hp) (by rw[e];exact hv) rfl X6 (by rw[e];exact hn) (by rw[e];exact hl)
theorem OE{l:List Hd}{k:Nat}(h:k<l.length)(hv:Valid l){day:Int}{s t:SR}(hs:AtS l day s)(ht:AtS (Dy l k h) day t):s=t:=by
 rw[OC]at ht;rw[<-OD l k h]at hs;exact AtS.split (OB (hv.1 k h).1) (hv.1 k h).1 hs ht
structure HoldI(w0:World)(l m:List Hd)(A0 Am Al:Option Addr)(nm:List ByteArray)(s:SR)(Ap Ac Av Bp Bc Bv:Option Addr)(cp cc cv dp dc dv sb tb:Nat)(W:World):Prop where
 x:Bk W sb 32 (SC s Ap Ac Av cp cc cv)
 y:Bk W tb 32 (SC s Bp Bc Bv dp dc dv)
 si:StIn W s Ap Ac Av
 ti:StIn W s Bp Bc Bv
 l:InHd W A0 l
 m:InHd W Am m
 n:InStr W Al nm
 b:Below w0.heap.size w0 W
theorem HoldI.below{w0:World}{l m:List Hd}{A0 Am Al:Option Addr}{nm:List ByteArray}{s:SR}{Ap Ac Av Bp Bc Bv:Option Addr}{cp cc cv dp dc dv sb tb:Nat}{W W':World}(h:HoldI w0 l m A0 Am Al nm s Ap Ac Av Bp Bc Bv cp cc cv dp dc dv sb tb W)(hb:Below W.heap.size W W'):HoldI w0 l m A0 Am Al nm s Ap Ac Av Bp Bc Bv cp cc cv dp dc dv sb tb W' :=
 ⟨h.x.below hb,h.y.below hb,h.si.below hb,h.ti.below hb,h.l.below hb,h.m.below hb,h.n.below hb,h.b.trans (hb.mono h.b.size)⟩
def RowX(W:World)(A:Option Addr)(n:Nat)(v:Nat->Rat):Prop:=0<n->∃b,A=some ⟨b,0,none⟩/\RowB W b n fun p=>rq (v p)
theorem RowX.below{W W':World}{A:Option Addr}{n:Nat}{v:Nat->Rat}(h:RowX W A n v)(hb:Below W.heap.size W W'):RowX W' A n v:=fun h0=>by
 obtain⟨b,e,hr⟩:=h h0;exact⟨b,e,hr.below hb hr.lt⟩
def IntX(W:World)(A:Option Addr)(n:Nat)(o:Nat->Int):Prop:=0<n->∃b,A=some ⟨b,0,none⟩/\RoI W b n o
theorem IntX.below{W W':World}{A:Option Addr}{n:Nat}{o:Nat->Int}(h:IntX W A n o)(hb:Below W.heap.size W W'):IntX W' A n o:=fun h0=>by
 obtain⟨b,e,hr⟩:=h h0;exact⟨b,e,hr.below hb⟩
noncomputable def TA(s:SR)(F:List Int):Nat:=if Gl s F=0 then s.ps.length else 0
theorem Vb{s:SR}{F:List Int}{w w':World}{e:Ending}(h:Sh.I2 s F w e w'):(∃A c,e=.returned (.tuple #[.slice A (TA s F) c,.int .i64 (Gl s F)])/\RowX w' A (TA s F) (Sh.ev s F))/\Below w.heap.size w w':=by
 refine⟨?_,h.2⟩;have h1:=h.1;unfold RowX TA Gl
 by_cases hg:Ao s=true/\AZ s.ps.length F=true
 .rw [zD hg]at h1 ⊢
  by_cases ht:Sh.AX s.ps.length (Ag s) (toN F)=true
  .rw[zD ht]at h1 ⊢;exact⟨none,0,h1,fun h=>absurd h (by rw[zC (by decide)];exact xV 0)⟩
  rw[zC ht]at h1 ⊢;obtain⟨b,e1,_,e2⟩:=h1;exact⟨some ⟨b,0,none⟩,s.ps.length,e1,fun _=>⟨b,rfl,e2⟩⟩
 rw[zC hg]at h1 ⊢;exact⟨none,0,h1,fun h=>absurd h (by rw[zC (by decide)];exact xV 0)⟩
noncomputable def WD(s:SR)(F:List Int):Int:=if Ao s=true/\AZ s.ps.length F=true then 0 else 1
noncomputable def TB(s:SR)(F:List Int):Nat:=if Ao s=true/\AZ s.ps.length F=true then s.ps.length else 0
theorem Vc{s:SR}{F:List Int}{w w':World}{e:Ending}(h:Co.KC s F w e w'):(∃A c,e=.returned (.tuple #[.slice A (TB s F) c,.int .i64 (WD s F)])/\IntX w' A (TB s F) (Co.rd (Co.VT s) (toN F)))/\Below w.heap.size w w':=by
 refine⟨?_,h.2⟩;have h1:=h.1;unfold IntX TB WD
 by_cases hg:Ao s=true/\AZ s.ps.length F=true
 .rw[zD hg]at h1 ⊢;rw[zD hg];obtain⟨b,e1,_,e2⟩:=h1;exact⟨some ⟨b,0,none⟩,s.ps.length,e1,fun _=>⟨b,rfl,e2⟩⟩
 rw[zC hg]at h1 ⊢;rw[zC hg];exact⟨none,0,h1,fun h=>absurd h (by decide)⟩
noncomputable def cmE(s:SR):Int:=if Ao s=true then 0 else 1
noncomputable def cmN(s:SR):Nat:=if Ao s=true then (Dv s).length else 0
theorem WE{s:SR}{w w':World}{e:Ending}(h:K1 s w e w'):(∃A c,e=.returned (.tuple #[.slice A (cmN s) c,.int .i64 (cmE s)]))/\Below w.heap.size w w':=by
 refine⟨?_,h.2⟩;have h1:=h.1;unfold cmN cmE
 by_cases hg:Ao s=true
 .rw[zD hg]at h1 ⊢;rw[zD hg];obtain⟨A,c,l,e1,_,e2⟩:=h1;exact⟨A,c,by rw[<-e2];unfold baR;rw[zW];exact e1⟩
 rw[zC hg]at h1 ⊢;rw[zC hg];exact⟨none,0,h1⟩
theorem TC{l:List Hd}{k:Nat}(hk:k<l.length)(hv:Valid l)(hm:Valid (Dy l k hk)){day:Int}{s:SR}(hs:AtS l day s){nm:List ByteArray}{pa:ByteArray}{pc:Int}{w1 w2 w3 w4:World}{e f:Ending}(h1:DW l day nm pa pc w1 e w2)(h2:DW (Dy l k hk) day nm pa pc w3 f w4):∃(b:Bool)(x:Int),e=.returned (.tuple #[.bool b,.int .i64 x])/\f=.returned (.tuple #[.bool b,.int .i64 x]):=by
 by_cases hq:Cq day nm pa pc=true
 .obtain⟨s1,b1,f1,e1,a1,o1⟩:=h1.1 ⟨hv,hq⟩;obtain⟨s2,b2,f2,e2,a2,o2⟩:=h2.1 ⟨hm,hq⟩;obtain rfl:s1=s:=a1.unique hs;obtain rfl:s1=s2:=OE hk hv hs a2;obtain⟨rfl,rfl⟩:=o1.unique o2;exact⟨b1,f1,e1,e2⟩
 exact⟨false,1,h1.2.1 fun h=>hq h.2,h2.2.1 fun h=>hq h.2⟩
def BoolP(w:World)(e:Ending)(w':World):Prop:=∃r:Bool,e=.returned (.bool r)/\Below w.heap.size w w'
theorem BoolP.of{w w':World}{e:Ending}{r:Bool}(h:e=.returned (.bool r))(hb:Below w.heap.size w w'):BoolP w e w':=⟨r,h,hb⟩
theorem Qx(l:List Hd)(A0:Option Addr)(cap:Nat)(w:World)(hl:InHd w A0 l)(hz:∀h∈l,HdSz h)(ak:l.length<=140737488355328):
 Calls prog 21 #[.slice A0 l.length cap,.int .i64 7] w (BoolP w):=by
 replace hl:=zh hl;replace hz:=zh hz
 by_cases c0:7<(l.length:Int)
 .go_enter func21,ntmps21;go_wp2;go_ret;exact⟨_,rfl,zI _ _⟩
 have ad:Hid (Below w.heap.size w w):=zI _ _;go_enter func21,ntmps21;go_wp2
 go_loopw [5] (fun i wr=>∃k:Nat,k<=l.length/\i=.int .i64 (k:Int)/\Hid (Below w.heap.size w wr)) (fun i _=>l.length-(intOf i).toNat)
 case atStart=>exact⟨0,zQ _,rfl,ad⟩
 case round=>
  obtain⟨k,hk,rfl,hB⟩:=hrel;clear ad;obtain⟨wz,rfl⟩:∃z,z=wr:=⟨_,rfl⟩
  by_cases hlt:k<l.length
  .obtain ⟨b,off,rfl,d,ae⟩:=hl.o (by omega);obtain⟨Aj,cj,hj,hc⟩:=ae k hlt;clear ae;have af:=hz.o l[k] (zN hlt);have k0:(0:Int)<=(k:Int):=by omega
   have k1:(k:Int)<(l.length:Int):=by omega
   generalize l[k]=h at hc hj af;have ai:b<wz.heap.size:=zJ d hB.o.size;have e0:=(hB.o.cell (p:=⟨b,_,none⟩) d).trans (hc 0 _ rfl);have e1:=(hB.o.cell (p:=⟨b,_,none⟩) d).trans (hc 1 _ rfl);have e2:=(hB.o.cell (p:=⟨b,_,none⟩) d).trans (hc 2 _ rfl);have e3:=(hB.o.cell (p:=⟨b,_,none⟩) d).trans (hc 3 _ rfl);have e4:=(hB.o.cell (p:=⟨b,_,none⟩) d).trans (hc 4 _ rfl);have e5:=(hB.o.cell (p:=⟨b,_,none⟩) d).trans (hc 5 _ rfl);have e6:=(hB.o.cell (p:=⟨b,_,none⟩) d).trans (hc 6 _ rfl);have e7:=(hB.o.cell (p:=⟨b,_,none⟩) d).trans (hc 7 _ rfl);have e8:=(hB.o.cell (p:=⟨b,_,none⟩) d).trans (hc 8 _ rfl);have e9:=(hB.o.cell (p:=⟨b,_,none⟩) d).trans (hc 9 _ rfl);simp only[ya]at e0;obtain⟨z0,z1,z2,z3,z4,z5,z6,z7,z8,z9,zt⟩:=af;have hx:Hid (Bk (wz.alloc (.cells #[.string h.id,.string h.co,.string h.ho,.string h.no,.string h.pl,.slice Aj h.jo.length cj,.int .i64 h.ca,.int .i64 h.vo,.int .i64 h.fr,.int .i64 h.tt] 29)) wz.heap.size 29 [.string h.id,.string h.co,.string h.ho,.string h.no,.string h.pl,.slice Aj h.jo.length cj,.int .i64 h.ca,.int .i64 h.vo,.int .i64 h.fr,.int .i64 h.tt]):=Bk.new _ _ _;have aa:Hid (Below w.heap.size w (wz.alloc (.cells #[.string h.id,.string h.co,.string h.ho,.string h.no,.string h.pl,.slice Aj h.jo.length cj,.int .i64 h.ca,.int .i64 h.vo,.int .i64 h.fr,.int .i64 h.tt] 29))):=hB.o.alloc hB.o.size _;have ag:Hid (InStr (wz.alloc (.cells #[.string h.id,.string h.co,.string h.ho,.string h.no,.string h.pl,.slice Aj h.jo.length cj,.int .i64 h.ca,.int .i64 h.vo,.int .i64 h.fr,.int .i64 h.tt] 29)) Aj h.jo):=hj.below aa.o;replace z6:=zh z6;have x0:=hx.o.c0;have x1:=hx.o.c1;have x2:=hx.o.c2;have x3:=hx.o.c3;have x4:=hx.o.c4;have x5:=hx.o.c5;have xl:=hx.o.lt;clear hc hj
   by_cases c1:60<(h.id.size:Int)
   .go_wp2;go_ret;exact⟨_,rfl,aa.o⟩
   by_cases c2:60<(h.co.size:Int)
   .go_wp2;go_ret;exact⟨_,rfl,aa.o⟩
   by_cases c3:60<(h.ho.size:Int)
   .go_wp2;go_ret;exact⟨_,rfl,aa.o⟩
   by_cases c4:60<(h.no.size:Int)
   .go_wp2;go_ret;exact⟨_,rfl,aa.o⟩
   by_cases c5:60<(h.pl.size:Int)
   .go_wp2;go_ret;exact⟨_,rfl,aa.o⟩
   by_cases c6:10<(h.jo.length:Int)
   .go_wp2;go_ret;exact⟨_,rfl,aa.o⟩
   go_wp2
   go_loopw [7] (fun i wr=>∃j:Nat,j<=h.jo.length/\i=.int .i64 (j:Int)/\wr=(wz.alloc (.cells #[.string h.id,.string h.co,.string h.ho,.string h.no,.string h.pl,.slice Aj h.jo.length cj,.int .i64 h.ca,.int .i64 h.vo,.int .i64 h.fr,.int .i64 h.tt] 29))) (fun i _=>h.jo.length-(intOf i).toNat)
   case atStart=>exact⟨0,zQ _,rfl,rfl⟩
   case round=>
    obtain⟨j,aj,rfl,rfl⟩:=hrel
    by_cases hlt2:j<h.jo.length
    .obtain ⟨b2,off2,rfl,ah,ab⟩:=ag.o (by omega);have f0:=ab j hlt2;have hs:=z6.o h.jo[j] (zN hlt2);have j0:(0:Int)<=(j:Int):=by omega
     have j1:(j:Int)<(h.jo.length:Int):=by omega
     generalize h.jo[j]=s at f0 hs;clear ab
     by_cases c7:60<(s.size:Int)
     .go_wp2;go_ret;exact⟨_,rfl,aa.o⟩
     go_wp2;exact⟨⟨j+1,by omega,by go_num,by first|rfl|trivial⟩,by simp only[intOf];omega⟩
    obtain rfl:j=h.jo.length:=by omega
    go_wp2;exact⟨⟨k+1,by omega,by go_num,aa⟩,by simp only[intOf];omega⟩
  obtain rfl:k=l.length:=by omega
  go_wp2;go_ret;exact⟨_,rfl,hB.o⟩
theorem Qy(l:List Hd)(A0:Option Addr)(cap:Nat)(nm:List ByteArray)(Al:Option Addr)(cl:Nat)(w:World)(hl:InHd w A0 l)(hz:∀h∈l,HdSz h)(ab:l.length<=140737488355328)(hn:InStr w Al nm)(d:∀x∈nm,x.size<=140737488355328)(af:nm.length<=140737488355328):
 Calls prog 6 #[.slice A0 l.length cap,.slice Al nm.length cl,.string ⟨#[]⟩] w (BoolP w):=by
 have kf:=zh (Qx l A0 cap w hl hz ab);clear hl hz;replace hn:=zh hn;replace d:=zh d;go_enter func6,ntmps6
 go_wp2_with fail
 refine kf.o.mono ?_;rintro e w2 ⟨r,rfl,hb⟩;clear kf
 cases r with
 |false=>
  go_wp2;go_ret;exact⟨_,rfl,hb⟩
 |true=>
  by_cases c1:10<(nm.length:Int)
  .go_wp2;go_ret;exact⟨_,rfl,hb⟩
  have ad:Hid (InStr w2 Al nm):=hn.o.below hb;replace hb:=zh hb;go_wp2
  go_loopw [7] (fun i wr=>∃k:Nat,k<=nm.length/\i=.int .i64 (k:Int)/\wr=w2) (fun i _=>nm.length-(intOf i).toNat)
  case atStart=>exact⟨0,zQ _,rfl,rfl⟩
  case round=>
   obtain⟨k,hk,rfl,rfl⟩:=hrel
   by_cases hlt:k<nm.length
   .obtain ⟨b,off,rfl,ae,aa⟩:=ad.o (by omega);have e0:=aa k hlt;have hs:=d.o nm[k] (zN hlt);have k0:(0:Int)<=(k:Int):=by omega
    have k1:(k:Int)<(nm.length:Int):=by omega
    generalize nm[k]=s at e0 hs;clear aa
    by_cases c7:60<(s.size:Int)
    .go_wp2;go_ret;exact⟨_,rfl,hb.o⟩
    go_wp2;exact⟨⟨k+1,by omega,by go_num,by first|rfl|trivial⟩,by simp only[intOf];omega⟩
   obtain rfl:k=nm.length:=by omega
   go_wp2;go_ret;exact⟨_,rfl,hb.o⟩
theorem Fw(l:List Lk)(A B:Option Addr)(ca cb:Nat)(w:World)(hl:InLk w A l)(hm:InLk w B l)(ad:l.length<=140737488355328):
 Calls prog 31 #[.slice A l.length ca,.slice B l.length cb] w fun e w'=>e=.returned (.bool true)/\Below w.heap.size w w':=by
 replace hl:=zh hl;replace hm:=zh hm;go_enter func31,ntmps31;go_wp2
 go_loopw [5] (fun i wr=>∃y q:Nat,y<=l.length/\i=.int .i64 (y:Int)/\wr=w.drewN q) (fun i _=>l.length-(intOf i).toNat)
 case atStart=>exact⟨0,0,zQ _,rfl,rfl⟩
 case round=>
  obtain⟨y,q,hy,rfl,rfl⟩:=hrel
  by_cases hlt:y<l.length
  .obtain⟨b,o,rfl,hb,hc⟩:=hl.o (by omega);obtain⟨b2,o2,rfl,h,d⟩:=hm.o (by omega);obtain⟨e1,e2,e3,e4,e5⟩:=hc y hlt;obtain⟨f1,f2,f3,f4,f5⟩:=d y hlt;clear hc d;generalize l[y]=x at e1 e2 e3 e4 e5 f1 f2 f3 f4 f5;obtain⟨x1,x2,g1,n1,d1⟩:=x;simp only at e1 e2 e3 e4 e5 f1 f2 f3 f4 f5;have hd:∀a,(w.drewN q).cell? a=w.cell? a:=fun a=>rfl;rw[<-hd]at e1 e2 e3 e4 e5 f1 f2 f3 f4 f5;have s1:(0:Int)<=(y:Int):=by omega
   have s2:(y:Int)<(l.length:Int):=by omega
   have ae:b<(w.drewN q).heap.size:=hb;have ab:b2<(w.drewN q).heap.size:=h;clear hd;generalize aa:w.drewN q=wq at *
   go_wp2_with fail
   go_quiet (fail)
   go_wp2;exact⟨⟨y+1,q+nq,by omega,by go_num,by rw[<-aa,World.drewN_drewN]⟩,by simp only[intOf];omega⟩
  obtain rfl:y=l.length:=by omega
  go_wp2;go_ret;exact⟨rfl,Nt.Dc (zI _ w) q⟩
theorem NJ(s:SR)(Ap Ac Av Bp Bc Bv:Option Addr)(cp cc cv dp dc dv:Nat)(w:World)(hs:StIn w s Ap Ac Av)(ht:StIn w s Bp Bc Bv):
 Calls prog 10 #[.agg #[.slice Ap s.ps.length cp,.slice Ac s.cap.length cc,.slice Av s.vot.length cv],.agg #[.slice Bp s.ps.length dp,.slice Bc s.cap.length dc,.slice Bv s.vot.length dv]] w fun e w'=>e=.returned (.bool true)/\Below w.heap.size w w':=by
 have ak:Hid (Bk (w.alloc (.cells #[.slice Ap s.ps.length cp,.slice Ac s.cap.length cc,.slice Av s.vot.length cv] 32)) w.heap.size 32 (SC s Ap Ac Av cp cc cv)):=Bk.new _ _ _;have ah:Hid (Below w.heap.size w (w.alloc (.cells #[.slice Ap s.ps.length cp,.slice Ac s.cap.length cc,.slice Av s.vot.length cv] 32))):=(zI _ w).alloc (zB _) _;have ad:=zh (ak.o.alloc (.cells #[.slice Bp s.ps.length dp,.slice Bc s.cap.length dc,.slice Bv s.vot.length dv] 32))
 have af:Hid (Bk ((w.alloc (.cells #[.slice Ap s.ps.length cp,.slice Ac s.cap.length cc,.slice Av s.vot.length cv] 32)).alloc (.cells #[.slice Bp s.ps.length dp,.slice Bc s.cap.length dc,.slice Bv s.vot.length dv] 32)) (w.heap.size+1) 32 (SC s Bp Bc Bv dp dc dv)):=by
  have h:=Bk.new (w.alloc (.cells #[.slice Ap s.ps.length cp,.slice Ac s.cap.length cc,.slice Av s.vot.length cv] 32)) 32 (SC s Bp Bc Bv dp dc dv);simp only[zX]at h;exact h
 have d:Hid (Below w.heap.size w ((w.alloc (.cells #[.slice Ap s.ps.length cp,.slice Ac s.cap.length cc,.slice Av s.vot.length cv] 32)).alloc (.cells #[.slice Bp s.ps.length dp,.slice Bc s.cap.length dc,.slice Bv s.vot.length dv] 32))):=ah.o.alloc ah.o.size _;have kt:=zh (JQ s.ps s.ps Ap Bp cp dp _ (hs.ps.below d.o) (ht.ps.below d.o) hs.np hs.np);rw[zG rfl]at kt;have x0:=ad.o.c0;have xl:=ad.o.lt;have y0:=af.o.c0;have yl:=af.o.lt;replace hs:=zh hs;replace ht:=zh ht;go_enter func10,ntmps10
 go_wp2_with fail
 refine kt.o.q fun w3 hb=>?_;have ae:=zh (ad.o.below hb);have ag:=zh (af.o.below hb);have aa:Hid (Below w.heap.size w w3):=d.o.trans (hb.mono d.o.size);clear kt x0 xl y0 yl hb ak ad af ah d;have kc:=zh (Fw s.cap Ac Bc cc dc w3 (hs.o.cap.below aa.o) (ht.o.cap.below aa.o) hs.o.nc);have x1:=ae.o.c1;have xl:=ae.o.lt;have y1:=ag.o.c1;have yl:=ag.o.lt
 go_wp2_with fail
 refine kc.o.q fun w4 hb=>?_;have ai:=zh (ae.o.below hb);have aj:=zh (ag.o.below hb);have ab:Hid (Below w.heap.size w w4):=aa.o.trans (hb.mono aa.o.size);clear kc x1 xl y1 yl hb ae ag aa;have kc:=zh (Fw s.vot Av Bv cv dv w4 (hs.o.vot.below ab.o) (ht.o.vot.below ab.o) hs.o.nv);have x2:=ai.o.c2;have xl:=ai.o.lt;have y2:=aj.o.c2;have yl:=aj.o.lt
 go_wp2_with fail
 refine kc.o.q fun w5 hb=>?_;have al:Hid (Below w.heap.size w w5):=ab.o.trans (hb.mono ab.o.size);clear kc x2 xl y2 yl hb ai aj ab;go_wp2;go_ret;exact⟨rfl,al.o⟩
theorem TD(l:List Hd)(A0:Option Addr)(cap:Nat)(s:ByteArray)(w:World)(hl:InHd w A0 l)(ah:l.length<=140737488355328):
 Calls prog 8 #[.slice A0 l.length cap,.string s] w (Fi (l.map Hd.id) s w):=by
 have ae:Hid (∀k (h:k<l.length),l[k].id=s->(∀j (hj:j<l.length),j<k->l[j].id≠s)->∀e,e=.returned (.int .i64 (k:Int))->Fi (l.map Hd.id) s w e w):=fun k h e q x hx=>
  ⟨k,hx,.inr ⟨k,by rw[zW];exact h,rfl,by rw[zz];exact e,fun j hj af=>by rw[zz];exact q j (by rw[zW]at hj;exact hj) af⟩,rfl⟩
 have ad:Hid ((∀k (h:k<l.length),l[k].id≠s)->∀e,e=.returned (.int .i64 (-1))->Fi (l.map Hd.id) s w e w):=fun q x hx=>⟨-1,hx,.inl ⟨rfl,fun m=>by
  obtain⟨z,hz,e⟩:=List.mem_map.1 m;obtain⟨i,hi,rfl⟩:=zg hz;exact q i hi e⟩,rfl⟩
 replace hl:=zh hl;go_enter func8,ntmps8;go_wp2
 go_loop [5] (fun i=>∃k:Nat,k<=l.length/\i=.int .i64 (k:Int)/\Hid (∀j (h:j<l.length),j<k->l[j].id≠s)) (fun i=>l.length-(intOf i).toNat)
 case atStart=>exact⟨0,zQ _,rfl,fun j _ h=>absurd h (yB _)⟩
 case round=>
  obtain⟨k,hk,rfl,hI⟩:=hrel
  by_cases hlt:k<l.length
  .obtain ⟨b,off,rfl,ag,ab⟩:=hl.o (by omega);obtain⟨A,c,_,hc⟩:=ab k hlt;have e0:=hc 0 _ rfl;simp only[ya]at e0;have d:=ae.o k hlt
   have aa:Hid (l[k].id≠s->∀j (h:j<l.length),j<k+1->l[j].id≠s):=fun h j hj h2=>by
    by_cases e:j=k
    .subst e;exact h
    exact hI.o j hj (by omega)
   have k0:(0:Int)<=(k:Int):=by omega
   have k1:(k:Int)<(l.length:Int):=by omega
   clear ab hc;generalize l[k].id=x at e0 d aa
   by_cases c:x=s
   .have hQ:=zh (d c hI.o);have m1:(x.toList==s.toList)=true:=(@Bh x s).trans (zG c);replace c:=zh c;clear d;go_wp2;go_ret;exact hQ.o _ rfl
   have m1:(x.toList==s.toList)=false:=(@Bh x s).trans (zH c);have hN:=zh (aa.o c);replace c:=zh c;clear d;go_wp2;exact⟨⟨k+1,by omega,by go_num,hN⟩,by simp only[intOf];omega⟩
  obtain rfl:k=l.length:=by omega
  have hQ:=zh (ad.o fun j h=>hI.o j h h);go_wp2;go_ret;exact hQ.o _ rfl
end Rg
end
end Go.Proofs.YtefmpngjjmddjaaGreatDoor

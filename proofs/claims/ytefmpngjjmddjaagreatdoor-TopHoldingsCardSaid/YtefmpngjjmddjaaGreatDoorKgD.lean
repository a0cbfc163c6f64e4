/- Parts of the proof. -/
import Derived.Deep.AppendLies
import Derived.Deep.Upon
import Derived.Test.YtefmpngjjmddjaaGreatDoorKgC
set_option maxHeartbeats 16000000
set_option maxRecDepth 100000
open Go.Proofs.Tryz
namespace Go.Proofs.YtefmpngjjmddjaaGreatDoor
section
open Go.RowKit Go.Shelf
namespace Rg
open Nt Ci
theorem ff{b:Bool}(h:b=true)(k:b=false):False:=by rw[h]at k;cases k
def κs(x:ByteArray):Lit:=.string x.data.toList
theorem EC:∀x y:ByteArray,κs x=κs y->x=y:=fun x y h=>by
 injection h with h;obtain⟨x⟩:=x;obtain⟨y⟩:=y;exact congrArg ByteArray.mk (Array.toList_inj.1 h)
theorem FV:Go.Maps.Keyed prog 9:=Go.Maps.Keyed.of_law (WideMaps.string_law underlying9)
theorem Ex{x:ByteArray}(h:x.size<=140737488355328):keyOf prog 9 (.string x)=some (κs x):=WideMaps.keyOf_string_mk underlying9 (by unfold maxLen;omega)
theorem Kl(w:World):(zeroValue 4).run prog w=.ok (.bool false) w:=by kernel_rfl
def Fk(l:List ByteArray):ByteArray->Option Value:=fun x=>if x∈l then some (.bool true) else none
theorem FW(l:List ByteArray)(x:ByteArray):(Fk l x).getD (.bool false)=.bool (decide (x∈l)):=by
 unfold Fk
 by_cases c:x∈l
 .rw[zD c,zG c];rfl
 rw[zC c,zH c];rfl
theorem Do(l:List ByteArray)(x:ByteArray)(m:List ByteArray)(h:∀y,y∈m<->y=x\/y∈l):∀y,HH (Fk l) x (some (.bool true)) y=Fk m y:=fun y=>by
 unfold Fk
 by_cases e:y=x
 .rw[e,Bg,zD ((h _).2 (.inl rfl))]
 rw[Bj e]
 by_cases c:y∈l
 .rw[zD c,zD ((h _).2 (.inr c))]
 rw[zC c,zC fun d=>c (((h _).1 d).resolve_left e)]
theorem FX:Fk []=fun _=>none:=by funext x;simp[Fk]
def Fl(W:World)(b:Nat)(l:List ByteArray)(k:Nat):Prop:=∃c,MapK prog 9 κs W b c (Fk l)/\c<=k
theorem MI(h : Hd)(hz:HdSz h)(A:Option Addr)(c:Nat)(w:World)(hj:InStr w A h.jo):
 Calls prog 22 #[.agg #[.string h.id,.string h.co,.string h.ho,.string h.no,.string h.pl,.slice A h.jo.length c,.int .i64 h.ca,.int .i64 h.vo,.int .i64 h.fr,.int .i64 h.tt]] w
  fun e w'=>e=.returned (.bool (decide (Proper h)))/\Below w.heap.size w w':=by
 obtain⟨R,hR⟩:∃R,R=decide (Proper h):=⟨_,rfl⟩;have an:Hid (¬Jq h->R=false):=fun n=>by rw[hR];exact zH fun x=>n x.1
 have aB:Hid (∀k (hk:k<h.jo.length),¬MH h k hk->R=false):=fun k hk n=>by rw[hR];exact zH fun x=>n (x.2.1 k hk)
 have ae:Hid (¬Jr h->R=false):=fun n=>by rw[hR];exact zH fun x=>n x.2.2
 have aq:Hid (Jq h->(∀k (hk:k<h.jo.length),MH h k hk)->Jr h->R=true):=fun a b c=>by rw[hR];exact zG ⟨a,b,c⟩
 rw[<-hR];clear hR;obtain⟨z0,z1,z2,z3,z4,z5,z6,z7,z8,z9,zt⟩:=hz;have af:Hid (Jq h<->(Ak h.id=true/\Ak h.co=true/\Ak h.ho=true/\HU h.no/\HU h.pl/\h.jo.length<=4/\(h.no.size=0\/h.jo.length=0))):=wB;have aA:Hid (∀k (hk:k<h.jo.length),MH h k hk<->(Ak h.jo[k]=true/\h.jo[k]∉h.ho::h.jo.take k)):=fun _ _=>wB;have aa:Hid (Jr h<->(h.co∉h.ho::h.jo/\h.co≠h.no/\Cr h.ca/\Cr h.vo/\CU h.fr/\(h.tt=-1\/CU h.tt/\h.fr<h.tt))):=wB;generalize Jq h=Q1 at *;generalize Jr h=Q3 at *;generalize ak:(fun k (hk:k<h.jo.length)=>MH h k hk)=JA at *;have az:∀k (hk:k<h.jo.length),MH h k hk=JA k hk:=fun k hk=>by rw[<-ak]
 simp only[az]at aB aq aA;clear ak az;obtain⟨id,co,ho,no,pl,jo,ca,vo,fr,tt⟩:=h;simp only[]at z0 z1 z2 z3 z4 z5 z6 z7 z8 z9 zt hj aB aq af aA aa JA ⊢;have hx:Hid (Bk (w.alloc (.cells #[.string id,.string co,.string ho,.string no,.string pl,.slice A jo.length c,.int .i64 ca,.int .i64 vo,.int .i64 fr,.int .i64 tt] 29)) w.heap.size 29 [.string id,.string co,.string ho,.string no,.string pl,.slice A jo.length c,.int .i64 ca,.int .i64 vo,.int .i64 fr,.int .i64 tt]):=Bk.new w _ _;have ad:Hid (Below w.heap.size w (w.alloc (.cells #[.string id,.string co,.string ho,.string no,.string pl,.slice A jo.length c,.int .i64 ca,.int .i64 vo,.int .i64 fr,.int .i64 tt] 29))):=(zI _ w).alloc (zB _) _;have k1:=DJ id (w.alloc (.cells #[.string id,.string co,.string ho,.string no,.string pl,.slice A jo.length c,.int .i64 ca,.int .i64 vo,.int .i64 fr,.int .i64 tt] 29)) (by omega);obtain⟨b1,e1⟩:∃b,b=Ak id:=⟨_,rfl⟩;rw[<-e1]at k1;replace k1:=zh k1;replace e1:=zh e1;have k2:=DJ co (w.alloc (.cells #[.string id,.string co,.string ho,.string no,.string pl,.slice A jo.length c,.int .i64 ca,.int .i64 vo,.int .i64 fr,.int .i64 tt] 29)) (by omega);obtain⟨b2,e2⟩:∃b,b=Ak co:=⟨_,rfl⟩;rw[<-e2]at k2;replace k2:=zh k2;replace e2:=zh e2;have k3:=DJ ho (w.alloc (.cells #[.string id,.string co,.string ho,.string no,.string pl,.slice A jo.length c,.int .i64 ca,.int .i64 vo,.int .i64 fr,.int .i64 tt] 29)) (by omega);obtain⟨b3,e3⟩:∃b,b=Ak ho:=⟨_,rfl⟩;rw[<-e3]at k3;replace k3:=zh k3;replace e3:=zh e3;have k4:=Vo no (w.alloc (.cells #[.string id,.string co,.string ho,.string no,.string pl,.slice A jo.length c,.int .i64 ca,.int .i64 vo,.int .i64 fr,.int .i64 tt] 29)) (by omega);obtain⟨b4,e4⟩:∃b,b=decide (HU no):=⟨_,rfl⟩;rw[<-e4]at k4;replace k4:=zh k4;replace e4:=zh e4;have k5:=Vo pl (w.alloc (.cells #[.string id,.string co,.string ho,.string no,.string pl,.slice A jo.length c,.int .i64 ca,.int .i64 vo,.int .i64 fr,.int .i64 tt] 29)) (by omega);obtain⟨b5,e5⟩:∃b,b=decide (HU pl):=⟨_,rfl⟩;rw[<-e5]at k5;replace k5:=zh k5;replace e5:=zh e5;replace z6:=zh z6;replace hj:=zh hj;have x0:=hx.o.c0;have x1:=hx.o.c1;have x2:=hx.o.c2;have x3:=hx.o.c3;have x4:=hx.o.c4;have x5:=hx.o.c5;have x6:=hx.o.c6;have x7:=hx.o.c7;have x8:=hx.o.cell (j:=8) rfl;have x9:=hx.o.cell (j:=9) rfl;have xl:=hx.o.lt;go_enter func22,ntmps22
 go_wp2_with fail
 refine k1.o.q fun wq hq=>?_;obtain rfl:=hq.symm
 cases b1 with
 |false=>
  have hQ:Hid (R=false):=an.o fun hh=>by have h:=af.o.1 hh;have h0:=h.1;exact ff h0 e1.o.symm
  go_wp2;go_ret;exact⟨Ad hQ.o.symm,ad.o⟩
 |true=>
  go_wp2_with fail
  refine k2.o.q fun wq hq=>?_;obtain rfl:=hq.symm
  cases b2 with
  |false=>
   have hQ:Hid (R=false):=an.o fun hh=>by have h:=af.o.1 hh;have h0:=h.2.1;exact ff h0 e2.o.symm
   go_wp2;go_ret;exact⟨Ad hQ.o.symm,ad.o⟩
  |true=>
   go_wp2_with fail
   refine k3.o.q fun wq hq=>?_;obtain rfl:=hq.symm
   cases b3 with
   |false=>
    have hQ:Hid (R=false):=an.o fun hh=>by have h:=af.o.1 hh;have h0:=h.2.2.1;exact ff h0 e3.o.symm
    go_wp2;go_ret;exact⟨Ad hQ.o.symm,ad.o⟩
   |true=>
    go_wp2_with fail
    refine k4.o.q fun wq hq=>?_;obtain rfl:=hq.symm
    cases b4 with
    |false=>
     have hQ:Hid (R=false):=an.o fun hh=>by have h:=af.o.1 hh;have h0:=h.2.2.2.1;exact ff (zG h0) e4.o.symm
     go_wp2;go_ret;exact⟨Ad hQ.o.symm,ad.o⟩
    |true=>
     go_wp2_with fail
     refine k5.o.q fun wq hq=>?_;obtain rfl:=hq.symm
     cases b5 with
     |false=>
      have hQ:Hid (R=false):=an.o fun hh=>by have h:=af.o.1 hh;have h0:=h.2.2.2.2.1;exact ff (zG h0) e5.o.symm
      go_wp2;go_ret;exact⟨Ad hQ.o.symm,ad.o⟩
     |true=>
      by_cases c6:4<jo.length
      .have m6:decide (4<(jo.length:Int))=true:=zG (by omega);have hQ:Hid (R=false):=an.o fun hh=>by have h:=(af.o.1 hh).2.2.2.2.2.1;omega
       go_wp2;go_ret;exact⟨Ad hQ.o.symm,ad.o⟩
      have m6:decide (4<(jo.length:Int))=false:=zH (by omega)
      by_cases c7:no=⟨#[]⟩
      .have hN : Hid (no.size=0):=Dd.1 c7;have hP:Hid Q1:=af.o.2 ⟨e1.o.symm,e2.o.symm,e3.o.symm,zL e4.o.symm,zL e5.o.symm,by omega,.inl hN.o⟩;have m7:no.toList=[]:=by rw[c7];exact yP _
       replace c7:=zh c7;have aD:=@run_makeMap prog;have au:MapK prog 9 κs ((w.alloc (.cells #[.string id,.string co,.string ho,.string no,.string pl,.slice A jo.length c,.int .i64 ca,.int .i64 vo,.int .i64 fr,.int .i64 tt] 29)).alloc (.map #[] 0)) (w.heap.size+1) 0 (Fk []):=by have h:=MapK.made (w.alloc (.cells #[.string id,.string co,.string ho,.string no,.string pl,.slice A jo.length c,.int .i64 ca,.int .i64 vo,.int .i64 fr,.int .i64 tt] 29)) prog 9 κs;rw[<-FX]at h;simpa using h
       have aw:=Ex z2;obtain⟨w3,ag,ab,ap⟩:=au.put EC FV underlying60 (by unfold maxLen;omega) aw (.bool true);have av:Hid (Fl w3 (w.heap.size+1) (ho::jo.take 0) 1):=⟨_,ab.congr (Do [] ho _ fun y=>by simp),by split<;>omega⟩;have am:Hid (Below w.heap.size w ((w.alloc (.cells #[.string id,.string co,.string ho,.string no,.string pl,.slice A jo.length c,.int .i64 ca,.int .i64 vo,.int .i64 fr,.int .i64 tt] 29)).alloc (.map #[] 0))):=ad.o.alloc ad.o.size _;have ar:Hid (Below w.heap.size w w3):=am.o.grown ap am.o.size (fun b e=>by cases e;omega);have ah:Hid (Bk w3 w.heap.size 29 [.string id,.string co,.string ho,.string no,.string pl,.slice A jo.length c,.int .i64 ca,.int .i64 vo,.int .i64 fr,.int .i64 tt]):=(hx.o.alloc _).grown ap (by simp);clear x0 x1 x2 x3 x4 x5 x6 x7 x8 x9 xl au ab ap aw am hx;have v5:=ah.o.c5;have vl:=ah.o.lt;go_wp2;clear aD ag
       go_loopw [61] (fun i wr=>∃k:Nat,k<=jo.length/\i=.int .i64 (k:Int)/\Hid (Below w.heap.size w wr)/\Hid (Fl wr (w.heap.size+1) (ho::jo.take k) (k+1))/\Hid (Bk wr w.heap.size 29 [.string id,.string co,.string ho,.string no,.string pl,.slice A jo.length c,.int .i64 ca,.int .i64 vo,.int .i64 fr,.int .i64 tt])/\Hid (∀j (h:j<jo.length),j<k->JA j h)) (fun i _=>jo.length-(intOf i).toNat)
       case atStart=>exact⟨0,zQ _,rfl,ar,av,ah,fun j _ h=>absurd h (yB _)⟩
       case round=>
        obtain⟨k,hk,rfl,hB,hM,hX,hI⟩:=hrel;clear av ar ah ad v5 vl;obtain⟨wz,rfl⟩:∃z,z=wr:=⟨_,rfl⟩;have y1:=hX.o.c1;have y2:=hX.o.c2;have y3:=hX.o.c3;have y6:=hX.o.c6;have y7:=hX.o.c7;have y8:=hX.o.cell (j:=8) rfl;have y9:=hX.o.cell (j:=9) rfl;have yl:=hX.o.lt
        by_cases aj:k<jo.length
        .obtain ⟨b,off,rfl,aN,aH⟩:=(hj.o.below hB.o) (by omega);have e0:=aH k aj;have hs:=z6.o jo[k] (zN aj);have ao:=aA.o k aj;have al:=aB.o k aj;have k0:(0:Int)<=(k:Int):=by omega
         have k1:(k:Int)<(jo.length:Int):=by omega
         have aF:Hid (JA k aj->∀j (h:j<jo.length),j<k+1->JA j h):=fun h j hj h2=>by
          by_cases e:j=k
          .subst e;exact h
          exact hI.o j hj (by omega)
         have ay:jo.take (k+1)=jo.take k++[jo[k]]:=zO aj;generalize JA k aj=RA at ao al aF;generalize jo[k]=s at e0 hs ao ay;have ai:=Ex hs;clear aH;obtain⟨mc,ab,ax⟩:=hM.o;have d:=ab.look FV underlying60 (Kl _) ai;rw[FW]at d;obtain⟨w9,ag,aG,aC⟩:=ab.put EC FV underlying60 (by unfold maxLen;omega) ai (.bool true);have aJ:Hid (Fl w9 (w.heap.size+1) (ho::jo.take (k+1)) (k+1+1)):=⟨_,aG.congr (Do _ s _ fun y=>by rw[ay];simp;constructor<;>(intro h;rcases h with h|h|h<;>simp[h])),by split<;>omega⟩;have aI:Hid (Below w.heap.size w w9):=hB.o.grown aC hB.o.size (fun b e=>by cases e;omega);have aL:Hid (Bk w9 w.heap.size 29 [.string id,.string co,.string ho,.string no,.string pl,.slice (some ⟨b,off,none⟩) jo.length c,.int .i64 ca,.int .i64 vo,.int .i64 fr,.int .i64 tt]):=hX.o.grown aC (by simp);have kc:=zh (DJ s wz (by omega));obtain⟨d1,f1⟩:∃b,b=Ak s:=⟨_,rfl⟩;obtain⟨d2,f2⟩:∃b,b=decide (s∈ho::jo.take k):=⟨_,rfl⟩;rw[<-f2]at d;rw[<-f1]at kc;replace f1:=zh f1;replace f2:=zh f2;replace ao:=zh ao;replace al:=zh al;replace ay:=zh ay;clear ab aG aC hM ai
         go_wp2_with fail
         refine kc.o.q fun wq hq=>?_;obtain rfl:=hq.symm
         cases d1 with
         |false=>
          have hQ:Hid (R=false):=al.o fun h=>ff (ao.o.1 h).1 f1.o.symm;clear d ag;go_wp2;go_ret;exact⟨Ad hQ.o.symm,hB.o⟩
         |true=>
          cases d2 with
          |true=>
           have hQ:Hid (R=false):=al.o fun h=>(ao.o.1 h).2 (zL f2.o.symm);clear ag;go_wp2;go_ret;exact⟨Ad hQ.o.symm,hB.o⟩
          |false=>
           have aK:=zh (aF.o (ao.o.2 ⟨f1.o.symm,zu f2.o.symm⟩));go_wp2;exact⟨⟨k+1,by omega,by go_num,aI,aJ,aL,aK⟩,by simp only[intOf];omega⟩
        obtain rfl:k=jo.length:=by omega
        have ak:Hid (∀j (h:j<jo.length),JA j h):=fun j h=>hI.o j h h;clear hI;rw[zn]at hM;have ai:=Ex z1;obtain⟨mc,ab,ax⟩:=hM.o;have d:=ab.look FV underlying60 (Kl _) ai;rw[FW]at d;clear ab ax hM ai hX;obtain⟨d2,f2⟩:∃b,b=decide (co∈ho::jo):=⟨_,rfl⟩;rw[<-f2]at d;replace f2:=zh f2
        cases d2 with
        |true=>
         have hQ:Hid (R=false):=ae.o fun h=>(aa.o.1 h).1 (zL f2.o.symm);go_wp2;go_ret;exact⟨Ad hQ.o.symm,hB.o⟩
        |false=>
         have c9:co≠no:=fun h=>by have h1:=e2.o;rw[h,c7.o]at h1;cases h1
         have n1:¬co.toList=[]:=by have h:=Ia (a:=co) (fun h=>c9 (h.trans c7.o.symm));exact h
         have n2:co.toList.isEmpty=false:=G0 (a:=co) (fun h=>c9 (h.trans c7.o.symm));replace c9:=zh c9;have kc:=zh (Fa ca wz);obtain⟨d_ca,f_ca⟩:∃b,b=decide (Cr ca):=⟨_,rfl⟩;rw[<-f_ca]at kc;replace f_ca:=zh f_ca
         go_wp2_with fail
         refine kc.o.q fun wq hq=>?_;obtain rfl:=hq.symm
         cases d_ca with
         |false=>
          have hQ:Hid (R=false):=ae.o fun hh=>by have h:=aa.o.1 hh;exact ff (zG h.2.2.1) f_ca.o.symm
          go_wp2;go_ret;exact⟨Ad hQ.o.symm,hB.o⟩
         |true=>
          clear kc;have kc:=zh (Fa vo wz);obtain⟨d_vo,f_vo⟩:∃b,b=decide (Cr vo):=⟨_,rfl⟩;rw[<-f_vo]at kc;replace f_vo:=zh f_vo
          go_wp2_with fail
          refine kc.o.q fun wq hq=>?_;obtain rfl:=hq.symm
          cases d_vo with
          |false=>
           have hQ:Hid (R=false):=ae.o fun hh=>by have h:=aa.o.1 hh;exact ff (zG h.2.2.2.1) f_vo.o.symm
           go_wp2;go_ret;exact⟨Ad hQ.o.symm,hB.o⟩
          |true=>
           clear kc;have kc:=zh (FU fr wz);obtain⟨d_fr,f_fr⟩:∃b,b=decide (CU fr):=⟨_,rfl⟩;rw[<-f_fr]at kc;replace f_fr:=zh f_fr
           go_wp2_with fail
           refine kc.o.q fun wq hq=>?_;obtain rfl:=hq.symm
           cases d_fr with
           |false=>
            have hQ:Hid (R=false):=ae.o fun hh=>by have h:=aa.o.1 hh;exact ff (zG h.2.2.2.2.1) f_fr.o.symm
            go_wp2;go_ret;exact⟨Ad hQ.o.symm,hB.o⟩
           |true=>
            clear kc
            by_cases c10:tt=-1
            .have hQ:Hid (R=true):=aq.o hP.o (fun j h=>ak.o j h) (aa.o.2 ⟨zu f2.o.symm,c9.o,zL f_ca.o.symm,zL f_vo.o.symm,zL f_fr.o.symm,.inl c10⟩);subst c10;go_wp2;go_ret;exact⟨Ad hQ.o.symm,hB.o⟩
            have aM:(tt==-1)=false:=beq_eq_false_iff_ne.2 c10;have kc:=zh (FU tt wz);obtain⟨d_tt,f_tt⟩:∃b,b=decide (CU tt):=⟨_,rfl⟩;rw[<-f_tt]at kc;replace f_tt:=zh f_tt;replace c10:=zh c10
            go_wp2_with fail
            refine kc.o.q fun wq hq=>?_;obtain rfl:=hq.symm
            cases d_tt with
            |false=>
             have hQ:Hid (R=false):=ae.o fun hh=>by have h:=(aa.o.1 hh).2.2.2.2.2;rcases h with h|h;(· exact c10.o h);(· exact ff (zG h.1) f_tt.o.symm)
             go_wp2;go_ret;exact⟨Ad hQ.o.symm,hB.o⟩
            |true=>
             by_cases c11:fr<tt
             .have aE:decide (fr<tt)=true:=zG c11;have hQ:Hid (R=true):=aq.o hP.o (fun j h=>ak.o j h) (aa.o.2 ⟨zu f2.o.symm,c9.o,zL f_ca.o.symm,zL f_vo.o.symm,zL f_fr.o.symm,.inr ⟨zL f_tt.o.symm,c11⟩⟩);go_wp2;go_ret;exact⟨Ad hQ.o.symm,hB.o⟩
             have aE:decide (fr<tt)=false:=zH c11;have hQ:Hid (R=false):=ae.o fun hh=>by have h:=(aa.o.1 hh).2.2.2.2.2;rcases h with h|h;(· exact c10.o h);(· exact c11 h.2)
             go_wp2;go_ret;exact⟨Ad hQ.o.symm,hB.o⟩
      have hN:Hid (no.size≠0):=fun h=>c7 (Dd.2 h);have m7:=Ia c7;have m7f:=G0 c7;replace c7:=zh c7
      by_cases c8:jo.length=0
      .have m8 : ¬ 0<jo.length:=by omega
       have hP:Hid Q1:=af.o.2 ⟨e1.o.symm,e2.o.symm,e3.o.symm,zL e4.o.symm,zL e5.o.symm,by omega,.inr c8⟩;replace c8:=zh c8;have aD:=@run_makeMap prog;have au:MapK prog 9 κs ((w.alloc (.cells #[.string id,.string co,.string ho,.string no,.string pl,.slice A jo.length c,.int .i64 ca,.int .i64 vo,.int .i64 fr,.int .i64 tt] 29)).alloc (.map #[] 0)) (w.heap.size+1) 0 (Fk []):=by have h:=MapK.made (w.alloc (.cells #[.string id,.string co,.string ho,.string no,.string pl,.slice A jo.length c,.int .i64 ca,.int .i64 vo,.int .i64 fr,.int .i64 tt] 29)) prog 9 κs;rw[<-FX]at h;simpa using h
       have aw:=Ex z2;obtain⟨w3,ag,ab,ap⟩:=au.put EC FV underlying60 (by unfold maxLen;omega) aw (.bool true);have av:Hid (Fl w3 (w.heap.size+1) (ho::jo.take 0) 1):=⟨_,ab.congr (Do [] ho _ fun y=>by simp),by split<;>omega⟩;have am:Hid (Below w.heap.size w ((w.alloc (.cells #[.string id,.string co,.string ho,.string no,.string pl,.slice A jo.length c,.int .i64 ca,.int .i64 vo,.int .i64 fr,.int .i64 tt] 29)).alloc (.map #[] 0))):=ad.o.alloc ad.o.size _;have ar:Hid (Below w.heap.size w w3):=am.o.grown ap am.o.size (fun b e=>by cases e;omega);have ah:Hid (Bk w3 w.heap.size 29 [.string id,.string co,.string ho,.string no,.string pl,.slice A jo.length c,.int .i64 ca,.int .i64 vo,.int .i64 fr,.int .i64 tt]):=(hx.o.alloc _).grown ap (by simp);clear x0 x1 x2 x3 x4 x5 x6 x7 x8 x9 xl au ab ap aw am hx;have v5:=ah.o.c5;have vl:=ah.o.lt;go_wp2;clear aD ag
       go_loopw [61] (fun i wr=>∃k:Nat,k<=jo.length/\i=.int .i64 (k:Int)/\Hid (Below w.heap.size w wr)/\Hid (Fl wr (w.heap.size+1) (ho::jo.take k) (k+1))/\Hid (Bk wr w.heap.size 29 [.string id,.string co,.string ho,.string no,.string pl,.slice A jo.length c,.int .i64 ca,.int .i64 vo,.int .i64 fr,.int .i64 tt])/\Hid (∀j (h:j<jo.length),j<k->JA j h)) (fun i _=>jo.length-(intOf i).toNat)
       case atStart=>exact⟨0,zQ _,rfl,ar,av,ah,fun j _ h=>absurd h (yB _)⟩
       case round=>
        obtain⟨k,hk,rfl,hB,hM,hX,hI⟩:=hrel;clear av ar ah ad v5 vl;obtain⟨wz,rfl⟩:∃z,z=wr:=⟨_,rfl⟩;have y1:=hX.o.c1;have y2:=hX.o.c2;have y3:=hX.o.c3;have y6:=hX.o.c6;have y7:=hX.o.c7;have y8:=hX.o.cell (j:=8) rfl;have y9:=hX.o.cell (j:=9) rfl;have yl:=hX.o.lt
        by_cases aj:k<jo.length
        .exact absurd aj (by have:=c8.o;omega)
        obtain rfl:k=jo.length:=by omega
        have ak:Hid (∀j (h:j<jo.length),JA j h):=fun j h=>hI.o j h h;clear hI;rw[zn]at hM;have ai:=Ex z1;obtain⟨mc,ab,ax⟩:=hM.o;have d:=ab.look FV underlying60 (Kl _) ai;rw[FW]at d;clear ab ax hM ai hX;obtain⟨d2,f2⟩:∃b,b=decide (co∈ho::jo):=⟨_,rfl⟩;rw[<-f2]at d;replace f2:=zh f2
        cases d2 with
        |true=>
         have hQ:Hid (R=false):=ae.o fun h=>(aa.o.1 h).1 (zL f2.o.symm);go_wp2;go_ret;exact⟨Ad hQ.o.symm,hB.o⟩
        |false=>
         by_cases c9:co=no
         .have hQ:Hid (R=false):=ae.o fun h=>(aa.o.1 h).2.1 c9;subst c9;go_wp2;go_ret;exact⟨Ad hQ.o.symm,hB.o⟩
         have n1:¬co.toList=no.toList:=fun h=>c9 (zL ((@Bh co no).symm.trans (beq_iff_eq.2 h)));have n2:(co.toList==no.toList)=false:=(@Bh co no).trans (zH c9);replace c9:=zh c9;have kc:=zh (Fa ca wz);obtain⟨d_ca,f_ca⟩:∃b,b=decide (Cr ca):=⟨_,rfl⟩;rw[<-f_ca]at kc;replace f_ca:=zh f_ca
         go_wp2_with fail
         refine kc.o.q fun wq hq=>?_;obtain rfl:=hq.symm
         cases d_ca with
         |false=>
          have hQ:Hid (R=false):=ae.o fun hh=>by have h:=aa.o.1 hh;exact ff (zG h.2.2.1) f_ca.o.symm
          go_wp2;go_ret;exact⟨Ad hQ.o.symm,hB.o⟩
         |true=>
          clear kc;have kc:=zh (Fa vo wz);obtain⟨d_vo,f_vo⟩:∃b,b=decide (Cr vo):=⟨_,rfl⟩;rw[<-f_vo]at kc;replace f_vo:=zh f_vo
          go_wp2_with fail
          refine kc.o.q fun wq hq=>?_;obtain rfl:=hq.symm
          cases d_vo with
          |false=>
           have hQ:Hid (R=false):=ae.o fun hh=>by have h:=aa.o.1 hh;exact ff (zG h.2.2.2.1) f_vo.o.symm
           go_wp2;go_ret;exact⟨Ad hQ.o.symm,hB.o⟩
          |true=>
           clear kc;have kc:=zh (FU fr wz);obtain⟨d_fr,f_fr⟩:∃b,b=decide (CU fr):=⟨_,rfl⟩;rw[<-f_fr]at kc;replace f_fr:=zh f_fr
           go_wp2_with fail
           refine kc.o.q fun wq hq=>?_;obtain rfl:=hq.symm
           cases d_fr with
           |false=>
            have hQ:Hid (R=false):=ae.o fun hh=>by have h:=aa.o.1 hh;exact ff (zG h.2.2.2.2.1) f_fr.o.symm
            go_wp2;go_ret;exact⟨Ad hQ.o.symm,hB.o⟩
           |true=>
            clear kc
            by_cases c10:tt=-1
            .have hQ:Hid (R=true):=aq.o hP.o (fun j h=>ak.o j h) (aa.o.2 ⟨zu f2.o.symm,c9.o,zL f_ca.o.symm,zL f_vo.o.symm,zL f_fr.o.symm,.inl c10⟩);subst c10;go_wp2;go_ret;exact⟨Ad hQ.o.symm,hB.o⟩
            have aM:(tt==-1)=false:=beq_eq_false_iff_ne.2 c10;have kc:=zh (FU tt wz);obtain⟨d_tt,f_tt⟩:∃b,b=decide (CU tt):=⟨_,rfl⟩;rw[<-f_tt]at kc;replace f_tt:=zh f_tt;replace c10:=zh c10
            go_wp2_with fail
            refine kc.o.q fun wq hq=>?_;obtain rfl:=hq.symm
            cases d_tt with
            |false=>
             have hQ:Hid (R=false):=ae.o fun hh=>by have h:=(aa.o.1 hh).2.2.2.2.2;rcases h with h|h;(· exact c10.o h);(· exact ff (zG h.1) f_tt.o.symm)
             go_wp2;go_ret;exact⟨Ad hQ.o.symm,hB.o⟩
            |true=>
             by_cases c11:fr<tt
             .have aE:decide (fr<tt)=true:=zG c11;have hQ:Hid (R=true):=aq.o hP.o (fun j h=>ak.o j h) (aa.o.2 ⟨zu f2.o.symm,c9.o,zL f_ca.o.symm,zL f_vo.o.symm,zL f_fr.o.symm,.inr ⟨zL f_tt.o.symm,c11⟩⟩);go_wp2;go_ret;exact⟨Ad hQ.o.symm,hB.o⟩
             have aE:decide (fr<tt)=false:=zH c11;have hQ:Hid (R=false):=ae.o fun hh=>by have h:=(aa.o.1 hh).2.2.2.2.2;rcases h with h|h;(· exact c10.o h);(· exact c11 h.2)
             go_wp2;go_ret;exact⟨Ad hQ.o.symm,hB.o⟩
      have m8:0<jo.length:=by omega
      have hQ:Hid (R=false):=an.o fun hh=>by rcases (af.o.1 hh).2.2.2.2.2.2 with h|h;(· exact hN.o h);(· exact c8 h)
      go_wp2;go_ret;exact⟨Ad hQ.o.symm,ad.o⟩
end Rg
end
section
open Go.RowKit Go.Shelf Go.Maps Go.Sort
namespace Rg
open Nt Ci
theorem Rv(m:Nat):AnyZ.SortsIn prog Tryz.sortedL_ren Fence.wide m :=
 ⟨fun blk off cap ss W hH d h=>callsIn_wide.2 (AnyM.slices_Sort_string Tryz.sortL blk off cap ss W hH d h),fun p cap W=>callsIn_wide.2 (AnyM.slices_Sort_string_none Tryz.sortL p cap W)⟩
theorem Km(mb:Option Nat)(W:World):CallsIn Fence.wide 5 prog 110 #[.map mb] W fun e w'=>e=.returned (.func (.func 143) #[] #[.pointer (some ⟨W.heap.size,0,none⟩)])/\w'=W.alloc (.cells #[.map mb] 60) :=
 AnyZ.keys_in Tryz.keysL Fence.wide 5 trivial rfl mb W
theorem Pi{H:Type}(b nn:Nat)(D0:DataW H)(R:Value->Option (DataW H×List MemPlace))(w:World)(h:w.ownsMap prog 9 R b nn D0)(aa:Maps.size D0<=maxLen)(d:Maps.size D0*16<=140737488355328):
 CallsIn Fence.wide 5 prog 109 #[.func (.func 143) #[] #[.pointer (some ⟨w.heap.size,0,none⟩)]] (w.alloc (.cells #[.map (some b)] 60)) fun e w'=>∃(v:Value)(ss:List (List UInt8)),e=.returned v/\ss.Perm (strKeys D0) /\
  w'.ownsRow (w.alloc (.cells #[.map (some b)] 60)).heap.size 9 1 v ss.length ((ss.mergeSort (fun x y=>decide (x<=y))).map encStr)/\(v=.slice none 0 0<->ss=[])/\Below (w.alloc (.cells #[.map (some b)] 60)).heap.size (w.alloc (.cells #[.map (some b)] 60)) w':=by
 have ad:=h.lt
 have ab:SeqGives Fence.wide 2 prog 143 #[.pointer (some ⟨w.heap.size,0,none⟩)] encStr (fun ss=>ss.Perm (strKeys D0)) (Maps.size D0) (w.alloc (.cells #[.map (some b)] 60)) :=
  AnyZ.keys_gives (ρ:=Tryz.keysL_ren) { Tryz.keysL with } Fence.wide _ trivial rfl (by omega) w.heap.size b nn D0 _ (by simp) (by simp) (by
   obtain⟨es,clock,hb,Ft,hs,hD⟩:=h;exact⟨es,clock,(yM _ _ b ad).trans hb,Ft,hs,hD⟩)
 exact AnyZ.sorted_in Tryz.sortedL Fence.wide 5 trivial trivial trivial trivial rfl (by omega) (Rv _) (enters_of func142 (by kernel_rfl) rfl) 143 #[.pointer (some ⟨w.heap.size,0,none⟩)] trivial (enters_of func143 (by kernel_rfl) rfl) _ _ aa d _ ab
theorem IP{P:Program}{k:TypeId}{R:Value->Option (DataW Value×List MemPlace)}{w:World}{b n:Nat}{D:DataW Value}(d:w.ownsMap P k R b n D)(K:Keyed P k)(hk:P.underlying k=some .string):
 (strKeys D).Nodup/\∀x,x∈strKeys D<->has D (.string x)=true:=by
 obtain⟨es,hD,ad,_⟩:=d.entries K;obtain⟨es',h,aa⟩:=d.keysOf;obtain rfl:es=es':=by rw[hD]at h;simpa using h
 subst hD;have key:∀p∈es,∃x,p.1=.string x:=fun p hp=>by obtain⟨v,hv⟩:=aa p hp;obtain⟨x,_,hx,_⟩:=Maps.keyOf_str hk hv;exact⟨x,hx⟩
 constructor
 .refine List.pairwise_map.2 (ad.imp_of_mem fun {p q} hp hq ab e=>ab ?_);obtain⟨a,ha⟩:=key p hp;obtain⟨c,hc⟩:=key q hq;rw[ha,hc]at e ⊢;exact congrArg _ e
 intro x;rw[has_eq,List.any_eq_true]
 show x∈es.map _<->_
 rw[vX];constructor
 .rintro⟨p,hp,rfl⟩;obtain⟨a,ha⟩:=key p hp;exact⟨p,hp,by rw[ha];simp[Lit.sameKey,strOf]⟩
 rintro⟨p,hp,hs⟩;obtain⟨a,ha⟩:=key p hp;rw[ha]at hs;exact⟨p,hp,by rw[ha];simpa [Lit.sameKey,strOf] using hs⟩
def Fr(n:Nat)(A:Option Addr):Prop:=∀b off,A=some ⟨b,off,none⟩->n<=b
theorem ofB(x:ByteArray):(⟨x.data.toList.toArray⟩:ByteArray)=x:=by obtain⟨x⟩:=x;simp
theorem MJ(L:List ByteArray)(b k:Nat)(w:World)(hM:Fl w b L k)(hk:k<=100000000):
 Calls prog 60 #[.map (some b)] w fun e w'=>∃ps A c,e=.returned (.slice A ps.length c)/\ps.Pairwise ltB/\(∀x,x∈ps<->x∈L)/\InStr w' A ps/\Below w.heap.size w w'/\Fr w.heap.size A:=by
 obtain⟨c,⟨D,aa,am,hD⟩,hc⟩:=hM;have ad:Maps.size D<=maxLen:=by unfold maxLen;omega
 have d:Maps.size D*16<=140737488355328:=by omega
 have hF:=IP aa FV underlying9
 have af:Hid (∀(e:Ending)(w':World)(v:Value)(ss:List (List UInt8)),e=.returned v->ss.Perm (strKeys D)->w'.ownsRow (w.alloc (.cells #[.map (some b)] 60)).heap.size 9 1 v ss.length ((ss.mergeSort (fun x y=>decide (x<=y))).map encStr)->Below w.heap.size w w' ->
  ∃ps A c,e=.returned (.slice A ps.length c)/\ps.Pairwise ltB/\(∀x,x∈ps<->x∈L)/\InStr w' A ps/\Below w.heap.size w w'/\Fr w.heap.size A):=by
  intro e w' v ss he hp ab hb;have ag:(ss.mergeSort (fun x y=>decide (x<=y))).length=ss.length:=(List.mergeSort_perm _ _).length_eq
  have ae:∀x:ByteArray,x∈(ss.mergeSort (fun x y=>decide (x<=y))).map (fun x=>(⟨x.toArray⟩:ByteArray))<->x∈L:=fun x=>by
   have h1:x∈(ss.mergeSort (fun x y=>decide (x<=y))).map (fun x=>(⟨x.toArray⟩:ByteArray))<->x.data.toList∈ss:=by
    rw[vX];constructor
    .rintro⟨y,hy,rfl⟩;exact(List.mergeSort_perm _ _).mem_iff.1 hy
    intro h;exact⟨_,(List.mergeSort_perm _ _).mem_iff.2 h,ofB x⟩
   rw[h1,hp.mem_iff,hF.2];have h2:=(hD x).1;rw[show κs x=.string x.data.toList from rfl]at h2;rw[h2];unfold Fk
   by_cases c:x∈L
   .rw[zD c];exact⟨fun _=>c,fun _=>rfl⟩
   rw[zC c];exact⟨fun h=>absurd h (by simp),fun h=>absurd h c⟩
  have ai:((ss.mergeSort (fun x y=>decide (x<=y))).map (fun x=>(⟨x.toArray⟩:ByteArray))).Pairwise ltB:=by
   rw[List.pairwise_map];have tr:∀a b c:List UInt8,decide (a<=b)=true->decide (b<=c)=true->decide (a<=c)=true:=fun a b c h1 h2=>by simp only[yG]at *;exact List.le_trans h1 h2
   have tl:∀a b:List UInt8,(decide (a<=b)||decide (b<=a))=true:=fun a b=>by simp only[Bool.or_eq_true,yG];exact List.le_total a b
   have h1:=List.pairwise_mergeSort tr tl ss;have h2:(ss.mergeSort (fun x y=>decide (x<=y))).Nodup:=(List.mergeSort_perm _ _).nodup_iff.2 (hp.nodup_iff.2 hF.1);refine(h1.and h2).imp fun {x y} ⟨h3,h4⟩=>?_
   show x<y
   simp only[yG]at h3;exact Decidable.byContradiction fun h=>h4 (List.le_antisymm h3 h)
  rcases ab.2 with⟨rfl,h0⟩|⟨g,cap,cur,rfl,ah,hg,_⟩
  .have:ss=[]:=List.length_eq_zero_iff.1 h0;subst this;exact⟨[],none,0,he,List.Pairwise.nil,fun x=>by simpa using ae x,fun h=>absurd h (by simp),hb,fun b off e=>by cases e⟩
  have hS:InStr w' (some ⟨g,0,none⟩) ((ss.mergeSort (fun x y=>decide (x<=y))).map (fun x=>(⟨x.toArray⟩:ByteArray))):=InStr.own (base:=(w.alloc (.cells #[.map (some b)] 60)).heap.size) (cap:=cap) (n:=ss.length) (by rw[xm];exact ab);exact⟨_,some ⟨g,0,none⟩,cap,by rw[he,zW,ag],ai,ae,hS,hb,fun b off e=>by injection e with e;injection e with e;simp at ah;omega⟩
 clear hF hD;replace ad:=zh ad;replace d:=zh d;replace aa:=zh aa;refine(callsIn_wide (n:=6)).1 ?_;have ak:Fence.wide.fn 110:=trivial;have al:Fence.wide.fn 109:=trivial;refine vV func60 rfl trivial ?_ rfl;simp only[ntmps60,xJ,zZ,ye,Nat.reduceAdd,Nat.reduceSub,xB,xC,xS,xG,yT,yi]
 gi_wp2_with (first
  |(gi_at_call 110;refine(Km _ _).mono ?_;rintro e w' ⟨rfl,rfl⟩)
  |(gi_at_call 109;refine(Pi b c D Ph w aa.o ad.o d.o).mono ?_;rintro e w' ⟨v,ss,rfl,hS,ab,aj,hb⟩))
 go_ret;exact af.o _ _ v ss rfl hS ab (((zI _ w).alloc (zB _) _).trans (hb.mono (by simp)))
end Rg
end
section
open Go.RowKit Go.Shelf
namespace Ci
def Bw(l:List Nat):List Value:=l.map fun(q:Nat)=>.int .i64 (q:Int)
theorem Ei(l:List Nat)(q:Nat):Bw (l++[q])=Bw l++[.int .i64 (q:Int)]:=by simp[Bw]
def Pj(u v:Value):Prop:=∀b,u.ownBlock=some b->v.ownBlock≠some b
structure Gr(W:World)(B R n:Nat)(v:Nat->Value)(adj:Nat->List Nat):Prop where
 lt:R<W.heap.size
 hd:∀i,i<n->W.cell? ⟨R,i,none⟩=some (v i)
 fr:∀i,W.frozen? ⟨R,i,none⟩=false
 rows:∀i,i<n->W.ownsRow B 3 1 (v i) (adj i).length (Bw (adj i))
 apart:∀i j,i<n->j<n->i≠j->Pj (v i) (v j)
 ne:∀i,i<n->(v i).ownBlock≠some R
 lowR:B<=R
section
variable {W W':World} {B R n i:Nat} {v:Nat->Value} {adj:Nat->List Nat}
theorem AC{base:Nat}{e:TypeId}{size m:Nat}{u:Value}{xs:List Value}(h:W.ownsRow base e size u m xs)(hb:Below W.heap.size W W'):W'.ownsRow base e size u m xs :=
 h.kept (row:=none) ⟨hb.os,hb.tape,hb.output,hb.size,fun k hk _=>hb.block k hk⟩ (by
  cases hu:u.ownBlock with
  |none=>exact .inl rfl
  |some b=>exact .inr (by simp))
theorem Gr.below(h:Gr W B R n v adj)(hb:Below W.heap.size W W'):Gr W' B R n v adj :=
 ⟨zJ h.lt hb.size,fun i hi=>(hb.cell (p:=⟨R,i,none⟩) h.lt).trans (h.hd i hi),fun i=>(hb.frozen (p:=⟨R,i,none⟩) h.lt).trans (h.fr i),fun i hi=>AC (h.rows i hi) hb,h.apart,h.ne,h.lowR⟩
theorem Gr.alloc(h:Gr W B R n v adj)(o:Obj):Gr (W.alloc o) B R n v adj:=h.below ((zI _ W).alloc (zB _) o)
theorem Gr.drew(h:Gr W B R n v adj):Gr W.drew B R n v adj:=h.below (zI _ W).drew
theorem Gr.mono{B':Nat}(h:Gr W B R n v adj)(hb:B'<=B):Gr W B' R n v adj :=
 ⟨h.lt,h.hd,h.fr,fun i hi=>by
   obtain⟨h1,h2⟩:=h.rows i hi;refine⟨h1,?_⟩
   rcases h2 with h2|⟨g,cap,cur,hv,hg,hh⟩
   .exact .inl h2
   exact .inr ⟨g,cap,cur,hv,zS hb hg,hh⟩,h.apart,h.ne,zS hb h.lowR⟩
theorem Dp{base:Nat}{e:TypeId}{u:Value}{l:List Nat}(h:W.ownsRow base e 1 u l.length (Bw l)):
 (u=.slice none 0 0/\l=[])\/∃g cap,u=.slice (some ⟨g,0,none⟩) l.length cap/\base<=g/\g<W.heap.size/\(∀j,W.frozen? ⟨g,j,none⟩=false)/\∀j (hj:j<l.length),W.cell? ⟨g,j,none⟩=some (.int .i64 (l[j]:Int)):=by
 rcases h.2 with⟨rfl,h0⟩|⟨g,cap,cur,rfl,hb,hg,_⟩
 .exact .inl ⟨rfl,List.length_eq_zero_iff.1 h0⟩
 refine .inr ⟨g,cap,rfl,hb,(Array.getElem?_eq_some_iff.1 hg).1,fun j=>by simp[World.frozen?,hg],fun j hj=>?_⟩;have hc:=h.cells (g:=g) (by simp[Value.ownBlock]) j (.int .i64 (l[j]:Int)) (by simp[Bw,hj]);have d:∀o,(⟨g,0,none⟩:Addr).add o=⟨g,o,none⟩:=fun o=>by unfold Addr.add;split<;>simp_all
 rwa [d]at hc
theorem Gr.start(w:World){B:Nat}(hB:B<=w.heap.size)(n:Nat)(t:TypeId):Gr (w.alloc (.cells (madeCells #[.slice none 0 0] n) t)) B w.heap.size n (fun _=>.slice none 0 0) fun _=>[]:=by
 have h:=yR w (.cells (madeCells #[(.slice none 0 0:Value)] n) t);refine⟨by simp,fun x hx=>?_,fun x=>by simp only[World.frozen?,h];simp,fun _ _=>yO _ _ _ _,fun _ _ _ _ _ b hb=>(by cases hb),fun _ _ hb=>(by cases hb),hB⟩;simp only[World.cell?,h];simp[madeCells,hx];rw[vW];rfl
def Ez(adj:Nat->List Nat)(x q:Nat):Nat->List Nat:=fun i=>if i=x then adj i++[q] else adj i
theorem Gr.step(h:Gr W B R n v adj){x q:Nat}(hx:x<n){u:Value}(hg:W.grownBy W' (v x).ownBlock)(ho:W'.ownsRow B 3 1 u ((adj x).length+1) (Bw (adj x)++[.int .i64 (q:Int)]))(hn:u.ownBlock=(v x).ownBlock\/u.ownBlock=some W.heap.size):
 Gr (W'.setCell ⟨R,x,none⟩ u) B R n (fun i=>if i=x then u else v i) (Ez adj x q):=by
 have af:some R≠(v x).ownBlock:=fun e=>h.ne x hx e.symm;have ab:W'.heap[R]? = W.heap[R]?:=hg.block R h.lt af;have d:∀i,W'.cell? ⟨R,i,none⟩=W.cell? ⟨R,i,none⟩:=fun i=>zT (a:=⟨R,i,none⟩) ab;have ag:∀i,W'.frozen? ⟨R,i,none⟩=W.frozen? ⟨R,i,none⟩:=fun i=>yF (a:=⟨R,i,none⟩) ab
 have ae:u.ownBlock≠some R:=fun e=>by
  rcases hn with hn|hn
  .exact h.ne x hx (by rw[<-hn,e])
  rw[e]at hn;have:=h.lt;simp only[Option.some.injEq]at hn;omega
 have ad:∀a b:Nat,a≠b->(⟨R,a,none⟩:Addr)≠⟨R,b,none⟩:=fun a b e1 e2=>by injection e2 with _ e3;exact e1 e3
 have far:∀{m:Nat} {z:Value} {xs:List Value},W'.ownsRow B 3 1 z m xs->z.ownBlock≠some R->(W'.setCell ⟨R,x,none⟩ u).ownsRow B 3 1 z m xs:=fun h hz=>
  h.kept (row:=some R) ⟨rfl,rfl,rfl,by simp,fun k _ hk=>ze _ _ _ _ (fun e=>hk (by rw[e]))⟩ (.inr hz)
 have aa:∀i,i<n->i≠x->Pj (v i) u:=fun i hi ah b hb e=>by
  rcases hn with hn|hn
  .exact h.apart i x hi hx ah b hb (by rw[<-hn,e])
  have:=((h.rows i hi).lt b hb).2;rw[e]at hn;simp only[Option.some.injEq]at hn;omega
 refine⟨by have:=hg.size;have:=h.lt;simp;omega,fun i hi=>?_,fun i=>by simpa [ag] using h.fr i,fun i hi=>?_,fun i j hi hj e=>?_,fun i hi=>?_,h.lowR⟩
 .by_cases e:i=x
  .subst e;rw[zD rfl];exact yV _ _ _ ((d i).trans (h.hd i hi))
  rw[zC e,yD _ _ _ _ (by first|exact ad _ _ e|exact ad _ _ fun c=>e c.symm),d];exact h.hd i hi
 .by_cases e:i=x
  .subst e;rw[zD rfl];have:Ez adj i q i=adj i++[q]:=zD rfl;rw[this,zV,Ei];exact far ho ae
  rw[zC e];have:Ez adj x q i=adj i:=zC e;rw[this];refine far ((h.rows i hi).kept hg ?_) (h.ne i hi)
  cases hv:(v i).ownBlock with
  |none=>exact .inl rfl
  |some b=>exact .inr fun c=>h.apart i x hi hx e b hv c.symm
 .by_cases e1:i=x
  .have e2:j≠x:=fun c=>e (by rw[e1,c]);rw[zD e1,zC e2];exact fun b hb hc=>aa j hj e2 b hc hb
  rw[zC e1]
  by_cases e2:j=x
  .rw[zD e2];exact aa i hi e1
  rw[zC e2];exact h.apart i j hi hj e
 by_cases e:i=x
 .rw[zD e];exact ae
 rw[zC e];exact h.ne i hi
theorem Gr.congr{a':Nat->List Nat}(h:Gr W B R n v adj)(e:∀i,i<n->adj i=a' i):Gr W B R n v a' :=
 ⟨h.lt,h.hd,h.fr,fun i hi=>by rw[<-e i hi];exact h.rows i hi,h.apart,h.ne,h.lowR⟩
end
end Ci
end
section
open Go.RowKit Go.Shelf
namespace Ci
section
variable {w w':World} {base:Nat} {e:TypeId} {size:Nat} {u v v':Value} {n:Nat} {xs:List Value}
theorem BK{P:Program}(t ty e:TypeId)(i:TypeInfo)(z:Value)(size bytes:Nat)(ht:P.underlying t=some (.slice e))(hi:P.info? e=some i)(hz:i.zero=some z)
 (ae:i.size=size)(ai:i.bytes=bytes)(v:Value)(n:Nat)(xs:List Value)(aa:w.ownsRow base e size v n xs)
 (a:Addr)(m c:Nat)(news:List Value)(hl:news.length=m*size)(d:∀j u,news[j]? = some u->w.cell? (a.add j)=some u)(h1:∀u∈news,u.oneCell'=true)(hm:0<m)
 (ah:n+m<=maxLen)(h:(n+m)*bytes<=140737488355328){v':Value}{w':World}(hr:(Builtin.append_ #[t,t] ty #[v,.slice (some a) m c]).run P w=.ok v' w'):
 v'.ownBlock=v.ownBlock\/v'.ownBlock=some w.heap.size:=by
 subst ae;subst ai;have ag:n+m<=9223372036854775807:=by simp only[maxLen]at ah;omega
 rcases aa.2 with⟨rfl,rfl⟩|⟨g,cap,cur,rfl,_,hg,_,ak,aj,_⟩
 .have ab:=run_append_nil (P:=P) w t ty e i z ht hi hz a m c news hl d (by omega) (by omega) (by have hb:=h;simp only[yE]at hb;omega);rw[ab]at hr;simp only[Result.ok.injEq]at hr;rw[<-hr.1];exact .inr rfl
 by_cases hroom:n+m<=cap
 .have af:n*i.size+news.length<=cur.size:=by rw[hl,aj,<-yS];exact yv _ hroom
  have ab:=run_append_room (P:=P) w t ty e i ht hi g n cap cur hg a m c news hl d h1 hroom af;rw[ab]at hr;simp only[Result.ok.injEq]at hr;rw[<-hr.1];exact .inl rfl
 have ad:∀j u,xs[j]? = some u->w.cell? ((⟨g,0,none⟩:Addr).add j)=some u:=aa.cells (g:=g) rfl;have ab:=run_append_grow (P:=P) w t ty e i z ht hi hz ⟨g,0,none⟩ n cap xs aa.1 ad a m c news hl d (by omega) (by omega) (growslice_fits (by omega) h);rw[ab]at hr;simp only[Result.ok.injEq]at hr;rw[<-hr.1];exact .inr rfl
end
theorem wpList_append_new{P:Program}(w:World){ops:Array Oper}{rest:List Oper}{o:Oper}{a:Act}{Q:Exit->Act->World->Prop}(ai:o.guard=none)(s x:Operand)(t:TypeId)
 (ho:o.op=.call { callee:=.builtin .append,args:=#[s,x],argTypes:=#[t,t] })
 (base:Nat)(e:TypeId)(i:TypeInfo)(z:Value)(size bytes:Nat)(ht:P.underlying t=some (.slice e))(hi:P.info? e=some i)(hz:i.zero=some z)
 (ab:i.size=size)(ah:i.bytes=bytes)(ak:z.cells.size=size)(aj:0<size)
 (v:Value)(n:Nat)(xs:List Value)(hs:a.eval s=v)(ae:w.ownsRow base e size v n xs)
 (ad:Addr)(m c:Nat)(news:List Value)(hx:a.eval x=.slice (some ad) m c)(hl:news.length=m*size)(aa:∀j u,news[j]? = some u->w.cell? (ad.add j)=some u)(h1:∀u∈news,u.oneCell'=true)(hm:0<m)
 (ag:n+m<=maxLen)(d:(n+m)*bytes<=140737488355328)(af:base<=w.heap.size)
 (h:∀v' w',w'.ownsRow base e size v' (n+m) (xs++news)->w.grownBy w' v.ownBlock->(v'.ownBlock=v.ownBlock\/v'.ownBlock=some w.heap.size)->wpList P ops Q rest (a.put o.dst v') w'):wpList P ops Q (o::rest) a w :=
 wpList_plain ai fun _ hK=>by
  obtain⟨v',w',hr,h2,h3,_⟩:=wg (P:=P) w base t o.type e i z size bytes ht hi hz ab ah ak aj v n xs ae ad m c news hl aa h1 ag d af;have h5:=BK (P:=P) t o.type e i z size bytes ht hi hz ab ah v n xs ae ad m c news hl aa h1 hm ag d hr;unfold Oper.wp execOp;simp only[ho,resolve,invoke,builtin,vR,wv,wK,wO,yy,vO,hs,hx,hr];exact hK _ _ (h v' w' h2 h3 h5)
theorem AM(v:Value)(h:v.oneCell'=true):∀u∈[v],u.oneCell'=true:=fun u hu=>by rw[List.mem_singleton.1 hu];exact h
theorem BH(w:World)(v:Value)(t:TypeId):∀j u,[v][j]? = some u->(w.alloc (.cells #[v] t)).cell? (Addr.add ⟨w.heap.size,0,none⟩ j)=some u:=by
 intro j u hj
 match j,hj with
 |0,hj=>simp at hj;subst hj;simp[Addr.add]
 |j+1,hj=>simp at hj
theorem AI{P:Program}(w:World){o:Oper}{a:Act}{K:Act->World->Prop}{Q:Exit->Act->World->Prop}(s x:Operand)(t:TypeId)
 (ho:o.op=.call { callee:=.builtin .append,args:=#[s,x],argTypes:=#[t,t] })
 (base:Nat)(e:TypeId)(i:TypeInfo)(z:Value)(size bytes:Nat)(ht:P.underlying t=some (.slice e))(hi:P.info? e=some i)(hz:i.zero=some z)
 (ab:i.size=size)(ah:i.bytes=bytes)(aj:z.cells.size=size)(ai:0<size)
 (v:Value)(n:Nat)(xs:List Value)(hs:a.eval s=v)(ae:w.ownsRow base e size v n xs)
 (ad:Addr)(m c:Nat)(news:List Value)(hx:a.eval x=.slice (some ad) m c)(hl:news.length=m*size)(aa:∀j u,news[j]? = some u->w.cell? (ad.add j)=some u)(h1:∀u∈news,u.oneCell'=true)(hm:0<m)
 (ag:n+m<=maxLen)(d:(n+m)*bytes<=140737488355328)(af:base<=w.heap.size)
 (h:∀v' w',w'.ownsRow base e size v' (n+m) (xs++news)->w.grownBy w' v.ownBlock->(v'.ownBlock=v.ownBlock\/v'.ownBlock=some w.heap.size)->K (a.put o.dst v') w'):o.wp P a w K Q:=by
 obtain⟨v',w',hr,h2,h3,_⟩:=wg (P:=P) w base t o.type e i z size bytes ht hi hz ab ah aj ai v n xs ae ad m c news hl aa h1 ag d af;have h5:=BK (P:=P) t o.type e i z size bytes ht hi hz ab ah v n xs ae ad m c news hl aa h1 hm ag d hr;unfold Oper.wp execOp;simp only[ho,resolve,invoke,builtin,vR,wv,wK,wO,yy,vO,hs,hx,hr];exact h v' w' h2 h3 h5
end Ci
end
section
open Go.RowKit Go.Shelf
namespace Rg
open Nt Ci
def InHd(W:World)(A:Option Addr)(l:List Hd):Prop :=
 0<l.length->∃b off,A=some ⟨b,off,none⟩/\b<W.heap.size/\∀j (hj:j<l.length),∃Aj cj,InStr W Aj l[j].jo/\∀i v,(hdV l[j] Aj cj)[i]? = some v->W.cell? ⟨b,off+j*10+i,none⟩=some v
theorem InHd.below{W W':World}{A:Option Addr}{l:List Hd}(h:InHd W A l)(hb:Below W.heap.size W W'):InHd W' A l:=fun h0=>by
 obtain⟨b,off,e,hl,hc⟩:=h h0;refine⟨b,off,e,zJ hl hb.size,fun j hj=>?_⟩;obtain⟨Aj,cj,h1,h2⟩:=hc j hj;exact⟨Aj,cj,h1.below hb,fun i v hv=>(hb.cell (p:=⟨b,_,none⟩) hl).trans (h2 i v hv)⟩
theorem Ej{P:Program}(w:World){ops:Array Oper}{rest:List Oper}{o:Oper}{a:Act}{Q:Exit->Act->World->Prop}(d:o.guard=none)(s x:Operand)(t:TypeId)
 (ho:o.op=.call { callee:=.builtin .append,args:=#[s,x],argTypes:=#[t,t] }){vs vx:Value}{ty:TypeId}(hs:a.eval s=vs)(hx:a.eval x=vx)(aa:o.type=ty)
 {v':Value}{w':World}(hr:(Builtin.append_ #[t,t] ty #[vs,vx]).run P w=.ok v' w')(h:wpList P ops Q rest (a.put o.dst v') w'):wpList P ops Q (o::rest) a w :=
 wpList_plain d fun _ hK=>by
  unfold Oper.wp execOp;simp only[ho,resolve,invoke,builtin,vR,wv,wK,wO,yy,vO,hs,hx,aa,hr];exact hK _ _ h
theorem Rn:(prog.info? 9).map (fun i=>(i.zero,i.size,i.bytes))=some (some (.string ⟨#[]⟩),1,16):=by kernel_rfl
theorem InStr.grown{W W':World}{A:Option Addr}{l:List ByteArray}{row:Option Nat}(h:InStr W A l)(hg:W.grownBy W' row)(d:∀b off,A=some ⟨b,off,none⟩->some b≠row):InStr W' A l:=fun h0=>by
 obtain⟨b,off,e,hl,hc⟩:=h h0;exact⟨b,off,e,zJ hl hg.size,fun j hj=>(hg.cell_far ⟨b,_,none⟩ hl (d b off e)).trans (hc j hj)⟩
theorem GO(l:List ByteArray):(l.flatMap opt).length<=l.length:=by
 induction l with
 |nil=>exact zB _
 |cons x l ih=>
  rw[List.flatMap_cons,zV,zZ];have:(opt x).length<=1:=by unfold opt;split<;>simp
  omega
theorem NZ(W:World)(B:Nat)(us:List ByteArray)(A:Option Addr)(c:Nat)(jo:List ByteArray)(n:Nat)(hn:us.length=n)(ah:n<=2)(hB:Bk W B 9 (us.map .string))(hj:InStr W A jo)(hl:jo.length<=1000000):
 ∃g cap w',B<=g/\(Builtin.append_ #[23,23] 23 #[.slice (some ⟨B,0,none⟩) n n,.slice A jo.length c]).run prog W=.ok (.slice (some ⟨g,0,none⟩) (n+jo.length) cap) w'/\InStr w' (some ⟨g,0,none⟩) (us++jo)/\W.grownBy w' (some B):=by
 obtain⟨i,hi,af⟩:=Option.map_eq_some_iff.1 Rn;obtain⟨hz,hs,hy⟩:i.zero=some (.string ⟨#[]⟩)/\i.size=1/\i.bytes=16:=by simpa using af
 cases jo with
 |nil=>
  refine⟨B,n,W,zB _,?_,?_,World.grownBy.refl _ _⟩
  .have h:Src prog i.size 23 (.slice A 0 c) 0 [] W:=by
    cases A with
    |none=>exact Src.ofNil W underlying23 c
    |some a=>exact Src.ofSlice W underlying23 a 0 c [] (by simp) (by simp) (by simp)
   exact run_append_nothing W _ _ _ 9 i underlying23 hi _ n n (zB _) _ h
  intro _;refine⟨B,0,rfl,hB.lt,fun j hj=>?_⟩;rw[yE];have ab:j<us.length:=by simpa using hj
  exact hB.cell (by rw[xq,zj ab];simp)
 |cons x js=>
  obtain⟨b0,off,rfl,ag,aa⟩:=hj (by simp);have d:W.ownsRow B 9 1 (.slice (some ⟨B,0,none⟩) n n) n (us.map .string):=⟨by simp[hn],.inr ⟨B,n,(us.map Value.string).toArray,rfl,zB _,hB,zB _,by unfold maxLen;omega,by simp[hn],by rw[<-hn];exact xE (by simp)⟩⟩
  obtain ⟨g,cap,w',hr,h2,h3,h4,_⟩:=run_append_lies (P:=prog) W 23 23 B 9 i (.string ⟨#[]⟩) 1 16 underlying23 hi hz hs hy rfl (by decide) _ n _ d ⟨b0,off,none⟩ (x::js).length c ((x::js).map Value.string) (by simp)
   (fun j u hu=>by
     rw[xq]at hu
     cases hq:(x::js)[j]? with
     |none=>rw[hq]at hu;cases hu
     |some y=>
      rw[hq]at hu;obtain⟨ae,ad⟩:=List.getElem?_eq_some_iff.1 hq;have:=aa j ae;rw[ad]at this
      cases hu
      rw[Dn];exact this)
   (fun u hu=>by obtain⟨y,_,rfl⟩:=List.mem_map.1 hu;rfl) (by simp) (by unfold maxLen;omega) (by omega) (xW hB.lt) _ rfl
  rw[<-zw]at h2;exact⟨g,cap,w',by rcases h4 with h4|h4;(· injection h4 with h4;exact wl h4);(· have:=hB.lt;omega),hr,InStr.own h2,h3⟩
theorem GP(l:List Hd)(A0:Option Addr)(cap:Nat)(w:World)(hl:InHd w A0 l)(hz:∀h∈l,HdSz h)(aK:∀h∈l,h.jo.length<=4)(bj:l.length<=140737488355328)(hN:(Dm l).length<=1000000):
 Calls prog 23 #[.slice A0 l.length cap] w fun e w'=>∃ps A c,e=.returned (.slice A ps.length c)/\IsParts l ps/\InStr w' A ps/\Below w.heap.size w w'/\Fr w.heap.size A:=by
 have a9:=@run_makeMap prog;have aU:Hid (Fl (w.alloc (.map #[] 0)) w.heap.size (Dm (l.take 0)) (Dm (l.take 0)).length):=⟨0,by have h:=MapK.made w prog 9 κs;rw[<-FX]at h;exact h,zQ _⟩;have aQ:Hid (Below w.heap.size w (w.alloc (.map #[] 0))):=(zI _ w).alloc (zB _) _;replace hl:=zh hl;replace hz:=zh hz;replace aK:=zh aK;go_enter func23,ntmps23;go_wp2;clear a9
 go_loopw [11] (fun i wr=>∃k:Nat,k<=l.length/\i=.int .i64 (k:Int)/\Hid (Below w.heap.size w wr)/\Hid (Fl wr w.heap.size (Dm (l.take k)) (Dm (l.take k)).length)) (fun i _=>l.length-(intOf i).toNat)
 case atStart=>exact⟨0,zQ _,rfl,aQ,aU⟩
 case round=>
  obtain⟨k,hk,rfl,hB,hM⟩:=hrel;clear aU aQ;obtain⟨wz,rfl⟩:∃z,z=wr:=⟨_,rfl⟩
  by_cases hlt:k<l.length
  .obtain ⟨b,off,rfl,aa,aV⟩:=hl.o (by omega);obtain⟨A,c,hj,hc⟩:=aV k hlt;clear aV;have bh:b<wz.heap.size:=zJ aa hB.o.size;have aZ:=hz.o l[k] (zN hlt);have a7:=aK.o l[k] (zN hlt)
   have aF:(Dm (l.take (k+1))).length<=1000000:=zS (by
    have h:=congrArg List.length (congrArg Dm (yo (k+1) l));unfold Dm at *;rw[List.flatMap_append,zV]at h;omega) hN
   have ab:Dm (l.take (k+1))=Dm (l.take k)++nms l[k]:=by
    unfold Dm;rw[zO hlt,List.flatMap_append,List.flatMap_singleton]
   have k0:(0:Int)<=(k:Int):=by omega
   have k1:(k:Int)<(l.length:Int):=by omega
   generalize l[k]=h at hc hj aZ ab a7;have e0:=(hB.o.cell (p:=⟨b,_,none⟩) aa).trans (hc 0 _ rfl);have e1:=(hB.o.cell (p:=⟨b,_,none⟩) aa).trans (hc 1 _ rfl);have e2:=(hB.o.cell (p:=⟨b,_,none⟩) aa).trans (hc 2 _ rfl);have e3:=(hB.o.cell (p:=⟨b,_,none⟩) aa).trans (hc 3 _ rfl);have e4:=(hB.o.cell (p:=⟨b,_,none⟩) aa).trans (hc 4 _ rfl);have e5:=(hB.o.cell (p:=⟨b,_,none⟩) aa).trans (hc 5 _ rfl);have e6:=(hB.o.cell (p:=⟨b,_,none⟩) aa).trans (hc 6 _ rfl);have e7:=(hB.o.cell (p:=⟨b,_,none⟩) aa).trans (hc 7 _ rfl);have e8:=(hB.o.cell (p:=⟨b,_,none⟩) aa).trans (hc 8 _ rfl);have e9:=(hB.o.cell (p:=⟨b,_,none⟩) aa).trans (hc 9 _ rfl);simp only[ya]at e0;obtain⟨Na,aG⟩:∃x,x=Dm (l.take k):=⟨_,rfl⟩;obtain⟨Nb,ap⟩:∃x,x=Dm (l.take (k+1)):=⟨_,rfl⟩;rw[<-aG]at hM ab;rw[<-ap]at ab aF;have bg:Na.length+(nms h).length<=1000000:=by rw[ab,zV]at aF;exact aF
   obtain⟨z0,z1,z2,z3,z4,z5,z6,z7,z8,z9,zt⟩:=aZ;obtain⟨w1,aw⟩:∃x,x=wz.alloc (.cells #[.string h.id,.string h.co,.string h.ho,.string h.no,.string h.pl,.slice A h.jo.length c,.int .i64 h.ca,.int .i64 h.vo,.int .i64 h.fr,.int .i64 h.tt] 29):=⟨_,rfl⟩;have hx:Hid (Bk w1 wz.heap.size 29 [.string h.id,.string h.co,.string h.ho,.string h.no,.string h.pl,.slice A h.jo.length c,.int .i64 h.ca,.int .i64 h.vo,.int .i64 h.fr,.int .i64 h.tt]):=by rw[aw];exact Bk.new wz _ _
   have aR:Hid (Below w.heap.size w w1):=by rw[aw];exact hB.o.alloc hB.o.size _
   obtain⟨mc,ah,aM⟩:=hM.o;have aW:Hid (mc<=Na.length):=aM;replace aM:mc<=1000000:=zS aM (by omega);have aD:MapK prog 9 κs w1.drew w.heap.size mc (Fk Na):=by rw[aw];exact(ah.alloc _).drew
   obtain⟨w3,aO,ai,ar⟩:=aD.put EC FV underlying60 (by unfold maxLen;omega) (Ex z1) (.bool true);replace ai:=ai.congr (Do _ h.co (h.co::Na) fun y=>by simp);obtain⟨w4,aP,ad,au⟩:=ai.put EC FV underlying60 (by unfold maxLen;split<;>omega) (Ex z2) (.bool true);replace ad:=ad.congr (Do _ h.ho (h.ho::h.co::Na) fun y=>by simp);have x1:=hx.o.c1;have x2:=hx.o.c2;have xl:=hx.o.lt;have ax:Hid (Bk w3 wz.heap.size 29 [.string h.id,.string h.co,.string h.ho,.string h.no,.string h.pl,.slice A h.jo.length c,.int .i64 h.ca,.int .i64 h.vo,.int .i64 h.fr,.int .i64 h.tt]):=Bk.grown (W:=w1.drew) hx.o ar (by have:=ah.lt;have:=hB.o.size;simp;omega);have y2:=ax.o.c2;have yl:=ax.o.lt;replace aG:=zh aG;replace ap:=zh ap;replace ab:=zh ab;replace hc:=zh hc;replace hj:=zh hj;replace ah:=zh ah;replace aD:=zh aD;replace ai:=zh ai;replace ad:=zh ad;replace ar:=zh ar;replace au:=zh au;subst aw;go_wp2;go_region;have am:Hid (Bk w4 wz.heap.size 29 [.string h.id,.string h.co,.string h.ho,.string h.no,.string h.pl,.slice A h.jo.length c,.int .i64 h.ca,.int .i64 h.vo,.int .i64 h.fr,.int .i64 h.tt]):=ax.o.grown au.o (by have:=ah.o.lt;have:=hB.o.size;simp;omega);have aS:Hid (Below w.heap.size w w3):=aR.o.drew.grown ar.o (by have:=aR.o.size;simpa using this) (fun b e=>by cases e;exact zB _);have an:Hid (Below w.heap.size w w4):=aS.o.grown au.o aS.o.size (fun b e=>by cases e;exact zB _);have bf:Hid (InStr w4 A h.jo):=hj.o.below an.o;clear x1 x2 xl y2 yl hx ax aO aP;have v3:=am.o.c3;have v4:=am.o.c4;have v5:=am.o.c5;have vl:=am.o.lt;have aB:Hid (Below w.heap.size w (w4.alloc (.cells #[.string h.no,.string h.pl] 9))):=an.o.alloc an.o.size _;have a1:Hid (InStr (w4.alloc (.cells #[.string h.no,.string h.pl] 9)) A h.jo):=hj.o.below aB.o;have a8:h.jo.length<=1000000:=by omega
   obtain⟨g,cp,w6,a5,av,ag,aI⟩:=NZ _ w4.heap.size [h.no,h.pl] A c h.jo 2 rfl (by decide) (Bk.new w4 9 [.string h.no,.string h.pl]) a1.o a8;have aT:Hid (Below w.heap.size w w6):=aB.o.grown aI aB.o.size (fun b e=>by cases e;exact an.o.size);have a2:Hid (MapK prog 9 κs w6 w.heap.size _ (Fk (h.ho::h.co::Na))):=(ad.o.alloc _).kept aI (by have:=ad.o.lt;simp;omega);clear aI;have a6:Hid (w.heap.size<g):=by have:=ad.o.lt;show _<_;omega
   clear a5;replace av:=zh av;replace ag:=zh ag
   go_wp2_with (at_builtin;refine Ej _ rfl _ _ 23 rfl rfl rfl rfl av.o ?_)
   clear v3 v4 v5 vl av am;have aC:Hid (Fl w6 w.heap.size ((h.ho::h.co::Na)++(([h.no,h.pl]++h.jo).take 0).flatMap opt) ((h.ho::h.co::Na)++(([h.no,h.pl]++h.jo).take 0).flatMap opt).length):=⟨_,by simpa using a2.o,by have:=aW.o;simp;split<;>split<;>omega⟩;obtain⟨xs,ae⟩:∃x,x=[h.no,h.pl]++h.jo:=⟨_,rfl⟩;have bb:xs.length=2+h.jo.length:=by rw[ae];simp;omega
   have bc:Hid (∀x∈xs,x.size<=140737488355328):=fun x hx=>by
    rw[ae]at hx;simp only[yi,yT,yW]at hx
    rcases hx with rfl|rfl|hx
    .exact z3
    .exact z4
    exact z6 x hx
   rw[<-ae]at aC;replace ag:Hid (InStr w6 (some ⟨g,0,none⟩) xs):=by rw[ae];exact ag.o
   replace ae:=zh ae;obtain⟨n2,aX⟩:∃n,n=xs.length:=⟨_,rfl⟩;have aY:2+h.jo.length=n2:=by omega
   have aN:Hid (n2=xs.length):=aX;have bk:n2<=1000002:=by omega
   have aA:(2:Int)+(h.jo.length:Int)=(n2:Int):=by omega
   rw[aY,aA];clear aX aY bb aA
   go_loopw [30] (fun i wr=>∃j:Nat,j<=n2/\i=.int .i64 (j:Int)/\Hid (Below w.heap.size w wr)/\Hid (InStr wr (some ⟨g,0,none⟩) xs)/\Hid (Fl wr w.heap.size ((h.ho::h.co::Na)++(xs.take j).flatMap opt) ((h.ho::h.co::Na)++(xs.take j).flatMap opt).length)) (fun i _=>n2-(intOf i).toNat)
   case atStart=>exact⟨0,zQ _,rfl,aT,ag,aC⟩
   case round=>
    obtain⟨j,bi,rfl,ao,aH,aE⟩:=hrel;clear aC ag aT;obtain⟨wy,rfl⟩:∃z,z=wr:=⟨_,rfl⟩
    by_cases hlt2:j<n2
    .have aL:j<xs.length:=by have:=aN.o;omega
     obtain⟨b2,off2,aq,bd,az⟩:=aH.o (by omega);obtain⟨rfl,rfl⟩:g=b2/\0=off2:=by injection aq with aq;injection aq with h1 h2;exact⟨h1,h2⟩
     have f0:=az j aL;have hs:=bc.o xs[j] (zN aL);have i0:(0:Int)<=(j:Int):=by omega
     have i1:(j:Int)<(n2:Int):=by omega
     have al:xs.take (j+1)=xs.take j++[xs[j]]:=zO aL;generalize xs[j]=s at f0 hs al;simp only[yE]at f0;clear az aq;replace al:=zh al
     by_cases cs:s=⟨#[]⟩
     .have m1:s.toList=[]:=by rw[cs];exact yP _
      have af:Hid (Fl wy w.heap.size ((h.ho::h.co::Na)++(xs.take (j+1)).flatMap opt) ((h.ho::h.co::Na)++(xs.take (j+1)).flatMap opt).length):=by
       have:(xs.take (j+1)).flatMap opt=(xs.take j).flatMap opt:=by rw[al.o,List.flatMap_append,List.flatMap_singleton,show opt s=[] from zD (by rw[cs];rfl),xN]
       rw[this];exact aE
      replace cs:=zh cs;go_wp2;exact⟨⟨j+1,by omega,by go_num,ao,aH,af⟩,by simp only[intOf];omega⟩
     have m1:=Ia cs;have m2:=G0 cs;have c0:s.size≠0:=fun h=>cs (Dd.2 h);replace cs:=zh cs;obtain⟨md,aj,ak⟩:=aE.o
     have be:md<=10000000:=by
      have h1:=GO (xs.take j);rw[zV,zZ,zZ]at ak;rw[yt]at h1;have:=aN.o;omega
     obtain⟨w8,ba,ay,aJ⟩:=aj.put EC FV underlying60 (by unfold maxLen;omega) (Ex hs) (.bool true)
     have af:Hid (Fl w8 w.heap.size ((h.ho::h.co::Na)++(xs.take (j+1)).flatMap opt) ((h.ho::h.co::Na)++(xs.take (j+1)).flatMap opt).length):=by
      have e:(h.ho::h.co::Na)++(xs.take (j+1)).flatMap opt=((h.ho::h.co::Na)++(xs.take j).flatMap opt)++[s]:=by
       rw[al.o,List.flatMap_append,List.flatMap_singleton,xT];simp[opt,c0]
      rw[e];exact⟨_,ay.congr (Do _ s _ fun y=>by rw[yQ,ym];exact Or.comm),by rw[zV];split<;>simp at ak ⊢<;>omega⟩
     have a0:Hid (Below w.heap.size w w8):=ao.o.grown aJ ao.o.size (fun b e=>by cases e;exact zB _);have a3:Hid (InStr w8 (some ⟨g,0,none⟩) xs):=InStr.grown aH.o aJ fun b off e=>by injection e with e;injection e with e;have:=a6.o;intro c;injection c;omega
     clear aj ay aJ;go_wp2;exact⟨⟨j+1,by omega,by go_num,a0,a3,af⟩,by simp only[intOf];omega⟩
    obtain rfl:j=n2:=by omega
    have af:Hid (Fl wy w.heap.size Nb Nb.length):=by
     obtain⟨md,aj,ak⟩:=aE.o;rw[aN.o,zn,ae.o]at aj ak
     have em:∀y,y∈(h.ho::h.co::Na)++([h.no,h.pl]++h.jo).flatMap opt<->y∈Nb:=fun y=>by
      rw[ab.o];simp[nms,List.flatMap_cons];constructor<;>(intro h;rcases h with h|h|h|h|h|h<;>simp[h])
     have el:((h.ho::h.co::Na)++([h.no,h.pl]++h.jo).flatMap opt).length=Nb.length:=by
      rw[ab.o];simp[nms,List.flatMap_cons];omega
     refine⟨md,aj.congr fun y=>?_,by rw[<-el];exact ak⟩;unfold Fk
     by_cases c:y∈Nb
     .rw[zD c,zD ((em y).2 c)]
     rw[zC c,zC fun d=>c ((em y).1 d)]
    go_wp2;rw[ap.o]at af;exact⟨⟨k+1,by omega,by go_num,ao,af⟩,by simp only[intOf];omega⟩
  obtain rfl:k=l.length:=by omega
  rw[zn]at hM;have kc:=zh (MJ (Dm l) w.heap.size _ wz hM.o (by omega))
  go_wp2_with fail
  refine kc.o.mono ?_;rintro e w' ⟨ps,A,c,rfl,hp,hm,hS,hb,a4⟩;go_wp2;go_ret;exact⟨ps,A,c,rfl,⟨hp,hm⟩,hS,hB.o.trans (hb.mono hB.o.size),fun b off e=>zS hB.o.size (a4 b off e)⟩
end Rg
end
section
open Go.ChangeShapes Go.WideShapes Go.ChangeAt Go.RowKit Go.Shelf Go.Joins Go.Deep
namespace Rg
open Nt Ci
def hdD{H:Type}(h:Hd)(dj:DataW H):DataW H:=.agg [Eg h.id,Eg h.co,Eg h.ho,Eg h.no,Eg h.pl,dj,H8 h.ca,H8 h.vo,H8 h.fr,H8 h.tt]
def Rx{H:Type}(l:List Hd)(d:DataW H):Prop:=∃E:List (Hd×DataW H),Lq (fun e=>hdD e.1 e.2) E d/\E.map Prod.fst=l/\∀e∈E,Lq Eg e.1.jo e.2
def hdI(h:Hd):Prop:=ME h.ca/\ME h.vo/\ME h.fr/\ME h.tt
section
variable {H:Type} {enc:TypeId×Value->H} {w:World} {base:Nat} {held:Bool}
theorem Ry:prog.cellsOf 29=10:=by kernel_rfl
theorem Rz{fuel:Nat}{cs:List Value}{x:DataW H×List MemPlace}(h:DataW.trod enc prog w base (fun _=>true) held fuel 22 cs=some x):
 ∃(A:Option Addr)(cap:Nat)(l:List Hd),cs=[.slice A l.length cap]/\Rx l x.1/\InHd w A l/\∀y,y∈l->hdI y:=by
 rcases open_slice underlying22 h with⟨h1,h2⟩|⟨a,len,cap,m,n,D,Pl,ah,hb,hl,hm,ad,hx,hi⟩
 .exact⟨none,0,[],h1,⟨[],.inl ⟨by rw[h2],rfl⟩,rfl,fun e he=>by cases he⟩,fun h=>absurd h (by simp),fun y hy=>by cases hy⟩
 simp only[wm]at ad;subst ad
 have each:∀i,i<m->∃y:Hd×Option Addr×Nat×DataW H,D i=hdD y.1 y.2.2.2/\(∀j v,(hdV y.1 y.2.1 y.2.2.1)[j]? = some v->w.cell? (a.add (i*10+j))=some v)/\InStr w y.2.1 y.1.jo/\Lq Eg y.1.jo y.2.2.2/\hdI y.1:=by
  intro i ai;obtain⟨cs',hc,ak⟩:=hi i ai;rw[Ry]at hc;obtain⟨xs,n',_,hy,_,ab,hf⟩:=DataW.trod_struct underlying29 ak;obtain⟨_,ag,af⟩:=World.cells?_some hc;have s1:prog.cellsOf 3=1:=by kernel_rfl
  have s3:prog.cellsOf 9=1:=by kernel_rfl
  have s4:prog.cellsOf 23=1:=by kernel_rfl
  match xs,ab,cs',ag with
  | [y0,y1,y2,y3,y4,y5,y6,y7,y8,y9],_,[c0,c1,c2,c3,c4,c5,c6,c7,c8,c9],_=>
    obtain⟨a0,e0,k0,_⟩:=wJ underlying9 (hf 0 _ rfl);obtain⟨a1,e1,k1,_⟩:=wJ underlying9 (hf 1 _ rfl);obtain⟨a2,e2,k2,_⟩:=wJ underlying9 (hf 2 _ rfl);obtain⟨a3,e3,k3,_⟩:=wJ underlying9 (hf 3 _ rfl);obtain⟨a4,e4,k4,_⟩:=wJ underlying9 (hf 4 _ rfl);obtain⟨Aj,cj,jo,e5,k5,m5⟩:=H9 (hf 5 _ rfl);obtain⟨a6,e6,k6,f6⟩:=DataW.trod_int underlying3 (hf 6 _ rfl);obtain⟨a7,e7,k7,f7⟩:=DataW.trod_int underlying3 (hf 7 _ rfl);obtain⟨a8,e8,k8,f8⟩:=DataW.trod_int underlying3 (hf 8 _ rfl);obtain⟨a9,e9,k9,f9⟩:=DataW.trod_int underlying3 (hf 9 _ rfl);have b0:c0=.string a0:=by simpa [s1,s3,s4] using e0
    have b1:c1=.string a1:=by simpa [s1,s3,s4] using e1
    have b2:c2=.string a2:=by simpa [s1,s3,s4] using e2
    have b3:c3=.string a3:=by simpa [s1,s3,s4] using e3
    have b4:c4=.string a4:=by simpa [s1,s3,s4] using e4
    have b5:c5=.slice Aj jo.length cj:=by simpa [s1,s3,s4] using e5
    have b6:c6=.int .i64 a6:=by simpa [s1,s3,s4] using e6
    have b7:c7=.int .i64 a7:=by simpa [s1,s3,s4] using e7
    have b8:c8=.int .i64 a8:=by simpa [s1,s3,s4] using e8
    have b9:c9=.int .i64 a9:=by simpa [s1,s3,s4] using e9
    subst b0 b1 b2 b3 b4 b5 b6 b7 b8 b9;refine⟨(⟨a0,a1,a2,a3,a4,jo,a6,a7,a8,a9⟩,Aj,cj,y5.1),?_,fun j v hv=>?_,m5,k5,i64_in f6,i64_in f7,i64_in f8,i64_in f9⟩
    .have ae:=congrArg Prod.fst hy;simp at ae k0 k1 k2 k3 k4 k6 k7 k8 k9;rw[ae];simp[hdD,Eg,H8,k0,k1,k2,k3,k4,k6,k7,k8,k9]
    have hj:j<10:=(List.getElem?_eq_some_iff.1 hv).1;have g:=af j (by simpa using hj);rw[Go.Deep.add_add]at g;rw[g];exact hv
 haveI:Inhabited (Hd×Option Addr×Nat×DataW H):=⟨(⟨⟨#[]⟩,⟨#[]⟩,⟨#[]⟩,⟨#[]⟩,⟨#[]⟩,[],0,0,0,0⟩,none,0,.nil)⟩
 obtain⟨Y,hY⟩:=choose_lt each;refine⟨some a,m,(List.range len).map fun i=>(Y i).1,by simpa using ah,⟨(List.range len).map fun i=>((Y i).1,(Y i).2.2.2),.inr ⟨_,by rw[hx,xm];simp only[];congr 1;exact xh fun i d=>(hY i (by have:=List.mem_range.1 d;omega)).1⟩,by rw[xm];rfl,fun e he=>?_⟩,fun h0=>?_,fun y hy=>?_⟩
 .obtain⟨i,d,rfl⟩:=List.mem_map.1 he;exact(hY i (by have:=List.mem_range.1 d;omega)).2.2.2.1
 .simp only[zW,yZ]at h0;have aa:=(hY 0 (by omega)).2.1 0 _ rfl;have aj:=World.cell?_spot aa;obtain⟨b,o,s⟩:=a;have hs:s=none:=by simpa [Addr.add] using aj
  subst hs;refine⟨b,o,rfl,?_,fun j hj=>?_⟩
  .have:=xp w _ aa
   simpa [Pf] using this
  have al:j<len:=by simpa using hj
  obtain⟨_,hc,hs,_⟩:=hY j (by omega);refine⟨(Y j).2.1,(Y j).2.2.1,?_,fun i v hv=>?_⟩
  .simp only[zz,wP];exact hs
  simp only[zz,wP]at hv;have:=hc i v hv
  rwa [Pf,<-Nat.add_assoc]at this
 obtain⟨i,d,rfl⟩:=List.mem_map.1 hy;exact(hY i (by have:=List.mem_range.1 d;omega)).2.2.2.2
theorem open_hdsV{r:Go.Reach}{b0:Nat}{v:Value}{d:DataW H}{p:List MemPlace}(hv:Value.okWide prog w r b0 22 v)(h:DataW.Trod enc prog w base (fun _=>true) held 22 v d p):
 ∃(A:Option Addr)(cap:Nat)(l:List Hd),v=.slice A l.length cap/\Rx l d/\InHd w A l/\∀y,y∈l->hdI y:=by
 obtain⟨a,len,c,rfl⟩:=okWide_slice underlying22 hv;obtain⟨n,hn⟩:=h;obtain⟨A,cap,l,e,h1,h2,h3⟩:=Rz hn;exact⟨A,cap,l,by simpa [Value.cells] using e,h1,h2,h3⟩
theorem open_strsV{r:Go.Reach}{b0:Nat}{v:Value}{d:DataW H}{p:List MemPlace}(hv:Value.okWide prog w r b0 23 v)(h:DataW.Trod enc prog w base (fun _=>true) held 23 v d p):
 ∃(A:Option Addr)(cap:Nat)(l:List ByteArray),v=.slice A l.length cap/\Lq Eg l d/\InStr w A l:=by
 obtain⟨a,len,c,rfl⟩:=okWide_slice underlying23 hv;obtain⟨n,hn⟩:=h;obtain⟨A,cap,l,e,h1,h2⟩:=H9 hn;exact⟨A,cap,l,by simpa [Value.cells] using e,h1,h2⟩
theorem strs_sz{l:List ByteArray}{d:DataW H}(h:Lq Eg l d)(hw:∀m∈d.weights prog 23,m<=140737488351232):l.length<=140737488355328/\∀x∈l,x.size<=140737488355328:=by
 obtain⟨a,b⟩:=NY underlying23 (Nat.lt_of_lt_of_eq (by decide:0<16) (by kernel_rfl)) h hw;exact⟨a,fun x hx=>DL (b x hx)⟩
theorem hds_sz{l:List Hd}{d:DataW H}(h:Rx l d)(hw:∀m∈d.weights prog 22,m<=140737488351232)(hi:∀y,y∈l->hdI y):l.length<=140737488355328/\∀y∈l,HdSz y:=by
 obtain⟨E,h1,h2,h3⟩:=h;obtain⟨a,b⟩:=NY underlying22 (Nat.lt_of_lt_of_eq (by decide:0<136) (by kernel_rfl)) h1 hw;refine⟨by rw[<-h2,zW];exact a,fun y hy=>?_⟩;have aa:=hi y hy;rw[<-h2]at hy;obtain⟨e,he,rfl⟩:=List.mem_map.1 hy;have hb:=b e he;obtain⟨y,dj⟩:=e;have hj:=h3 _ he;simp only at hj aa hb
 have ew:(hdD y dj).weights prog 29=(Eg (H:=H) y.id).weights prog 9++((Eg (H:=H) y.co).weights prog 9++((Eg (H:=H) y.ho).weights prog 9++((Eg (H:=H) y.no).weights prog 9++((Eg (H:=H) y.pl).weights prog 9++(dj.weights prog 23++((H8 (H:=H) y.ca).weights prog 3++((H8 (H:=H) y.vo).weights prog 3++((H8 (H:=H) y.fr).weights prog 3++(H8 (H:=H) y.tt).weights prog 3)))))))):=by
  simp[hdD,DataW.weights,DataW.weightsEach,underlying29]
 rw[ew]at hb;simp only[yQ]at hb;have ab:=strs_sz hj fun m hm=>hb m (by simp[hm]);exact⟨DL (H:=H) fun m hm=>hb m (by simp[hm]),DL (H:=H) fun m hm=>hb m (by simp[hm]),DL (H:=H) fun m hm=>hb m (by simp[hm]),DL (H:=H) fun m hm=>hb m (by simp[hm]),DL (H:=H) fun m hm=>hb m (by simp[hm]),ab.1,ab.2,aa.1,aa.2.1,aa.2.2.1,aa.2.2.2⟩
end
end Rg
end
section
open Go.RowKit Go.Shelf
namespace Sh
open Nt Ci
theorem GQ(q:Rat):∃g n d,qv q=.agg #[.bool g,.string n,.string d]:=⟨_,_,_,rfl⟩
theorem R4(n:Int):ofQ n 1=(n:Rat):=by
 unfold ofQ;rw[show decide ((1:Int)<0)=false from rfl]
 have e:sg (!(decide (n<0)==false)) n.natAbs=n:=by
  have:=Cb n
  cases h:decide (n<0) with
  |true=>rw[h]at this;exact this
  |false=>rw[h]at this;exact this
 rw[e];exact Rat.mkRat_one n
theorem Js(k:Int)(hk:-10<=k/\k<=10)(w:World)(hE:Env w):
 Calls prog 36 #[.int .i64 k] w fun e w'=>e=.returned (qv (k:Rat))/\Below w.heap.size w w':=by
 obtain⟨g,n,d,hq⟩:=GQ (k:Rat);have ab:Hid (Below w.heap.size w (w.alloc (.cells #[.bool false,.string ⟨#[]⟩,.string ⟨#[]⟩] 48))):=((zI _ w).alloc (zB _) _);have af:Hid (Bk (w.alloc (.cells #[.bool false,.string ⟨#[]⟩,.string ⟨#[]⟩] 48)) (w.heap.size) 48 [.bool false,.string ⟨#[]⟩,.string ⟨#[]⟩]):=by have h:=Bk.new w 48 [.bool false,.string ⟨#[]⟩,.string ⟨#[]⟩]; exact h
 have ko:Hid (Calls prog 56 #[.int .i64 k,.int .i64 1] (w.alloc (.cells #[.bool false,.string ⟨#[]⟩,.string ⟨#[]⟩] 48)) fun e w'=>e=.returned (.tuple #[.agg #[.bool g,.string n,.string d],.int .i64 0])/\Below ((w.alloc (.cells #[.bool false,.string ⟨#[]⟩,.string ⟨#[]⟩] 48))).heap.size (w.alloc (.cells #[.bool false,.string ⟨#[]⟩,.string ⟨#[]⟩] 48)) w'):=by have h:=EY k 1 (by omega) (by omega) (by omega) (by omega) (by omega) (w.alloc (.cells #[.bool false,.string ⟨#[]⟩,.string ⟨#[]⟩] 48)) (hE.below ab.o);rw[R4,hq]at h;exact h
 have u1:=hk.1;have u2:=hk.2;replace hE:=zh hE;go_enter func36,ntmps36
 go_wp2_with fail
 refine ko.o.q fun w3 hb=>?_;have ae:=ab.t hb;have ag:=zh (af.o.below hb);clear hb ab af ko;have ah:Hid (Below w.heap.size w (w3.alloc (.cells #[.bool g,.string n,.string d] 48))):=ae.o.alloc ae.o.size _;have aa:=zh (ag.o.alloc (.cells #[.bool g,.string n,.string d] 48));clear ae ag;have aj:Hid (Bk (w3.alloc (.cells #[.bool g,.string n,.string d] 48)) w3.heap.size 48 [.bool g,.string n,.string d]):=Bk.new _ _ _;have r0:=aa.o.c0;have r1:=aa.o.c1;have r2:=aa.o.c2;have r9:=aa.o.lt;have ak:=aa.o.frozen 0;have al:=aa.o.frozen 1;have am:=aa.o.frozen 2;have ai:Hid (Below w.heap.size w ((((w3.alloc (.cells #[.bool g,.string n,.string d] 48)).setCell ⟨w.heap.size,0,none⟩ (.bool g)).setCell ⟨w.heap.size,1,none⟩ (.string n)).setCell ⟨w.heap.size,2,none⟩ (.string d))):=(((ah.o.setCell (p:=⟨w.heap.size,0,none⟩) (zB _) _).setCell (p:=⟨w.heap.size,1,none⟩) (zB _) _).setCell (p:=⟨w.heap.size,2,none⟩) (zB _) _);have ad:Hid (Bk ((((w3.alloc (.cells #[.bool g,.string n,.string d] 48)).setCell ⟨w.heap.size,0,none⟩ (.bool g)).setCell ⟨w.heap.size,1,none⟩ (.string n)).setCell ⟨w.heap.size,2,none⟩ (.string d)) (w.heap.size) 48 [.bool g,.string n,.string d]):=(Bk.set (Bk.set (Bk.set aa.o 0 (.bool g)) 1 (.string n)) 2 (.string d));go_wp2
 (try simp only[Exit.inBlock,Exit.then])
 have s0:=ad.o.c0;have s1:=ad.o.c1;have s2:=ad.o.c2;have s9:=ad.o.lt;refine zm (v:=.agg #[.bool g,.string n,.string d]) (by simp[results,results36,go_sem,s0,s1,s2]) rfl ⟨by rw[hq],ai.o⟩
theorem MK(s x y:Rat)(hs:ShortQ s)(hx:ShortQ x)(hy:ShortQ y)(ax:ShortQ (x*y))(w:World)(hE:Env w):
 Calls prog 76 #[qv s,qv x,qv y] w fun e w'=>e=.returned (qv (s+x*y))/\Below w.heap.size w w':=by
 obtain⟨g1,n1,d1,q1⟩:=GQ s;obtain⟨g2,n2,d2,q2⟩:=GQ x;obtain⟨g3,n3,d3,q3⟩:=GQ y;obtain⟨g4,n4,d4,q4⟩:=GQ (x*y);obtain⟨g5,n5,d5,q5⟩:=GQ (s+x*y);have km:Hid (∀W,Env W->Calls prog 51 #[.agg #[.bool g2,.string n2,.string d2],.agg #[.bool g3,.string n3,.string d3]] W fun e w'=>e=.returned (.tuple #[.agg #[.bool g4,.string n4,.string d4],.int .i64 0])/\Below W.heap.size W w'):=fun W hW=>by have h:=Gx x y hx hy W hW;rw[q2,q3,q4]at h;exact h
 have ka:Hid (∀W,Env W->Calls prog 52 #[.agg #[.bool g1,.string n1,.string d1],.agg #[.bool g4,.string n4,.string d4]] W fun e w'=>e=.returned (.tuple #[.agg #[.bool g5,.string n5,.string d5],.int .i64 0])/\Below W.heap.size W w'):=fun W hW=>by have h:=Jl s (x*y) hs ax W hW;rw[q1,q4,q5]at h;exact h
 rw[q1,q2,q3,q5];clear q1 q2 q3 q4 q5 hs hx hy ax;have af:Hid (Below w.heap.size w ((((w.alloc (.cells #[.bool g1,.string n1,.string d1] 48)).alloc (.cells #[.bool g2,.string n2,.string d2] 48)).alloc (.cells #[.bool g3,.string n3,.string d3] 48)).alloc (.cells #[.bool false,.string ⟨#[]⟩,.string ⟨#[]⟩] 48))):=(((((zI _ w).alloc (zB _) _).alloc (by simp) _).alloc (by simp;omega) _).alloc (by simp;omega) _);have ak:Hid (Bk ((((w.alloc (.cells #[.bool g1,.string n1,.string d1] 48)).alloc (.cells #[.bool g2,.string n2,.string d2] 48)).alloc (.cells #[.bool g3,.string n3,.string d3] 48)).alloc (.cells #[.bool false,.string ⟨#[]⟩,.string ⟨#[]⟩] 48)) (w.heap.size) 48 [.bool g1,.string n1,.string d1]):=by have h:=Bk.new w 48 [.bool g1,.string n1,.string d1];have h:=h.alloc (.cells #[.bool g2,.string n2,.string d2] 48);have h:=h.alloc (.cells #[.bool g3,.string n3,.string d3] 48);have h:=h.alloc (.cells #[.bool false,.string ⟨#[]⟩,.string ⟨#[]⟩] 48); exact h
 have ad:Hid (Bk ((((w.alloc (.cells #[.bool g1,.string n1,.string d1] 48)).alloc (.cells #[.bool g2,.string n2,.string d2] 48)).alloc (.cells #[.bool g3,.string n3,.string d3] 48)).alloc (.cells #[.bool false,.string ⟨#[]⟩,.string ⟨#[]⟩] 48)) (w.heap.size+1) 48 [.bool g2,.string n2,.string d2]):=by have h:=Bk.new (w.alloc (.cells #[.bool g1,.string n1,.string d1] 48)) 48 [.bool g2,.string n2,.string d2];have h:=h.alloc (.cells #[.bool g3,.string n3,.string d3] 48);have h:=h.alloc (.cells #[.bool false,.string ⟨#[]⟩,.string ⟨#[]⟩] 48);simp only[zX]at h;exact h
 have ae:Hid (Bk ((((w.alloc (.cells #[.bool g1,.string n1,.string d1] 48)).alloc (.cells #[.bool g2,.string n2,.string d2] 48)).alloc (.cells #[.bool g3,.string n3,.string d3] 48)).alloc (.cells #[.bool false,.string ⟨#[]⟩,.string ⟨#[]⟩] 48)) (w.heap.size+1+1) 48 [.bool g3,.string n3,.string d3]):=by have h:=Bk.new ((w.alloc (.cells #[.bool g1,.string n1,.string d1] 48)).alloc (.cells #[.bool g2,.string n2,.string d2] 48)) 48 [.bool g3,.string n3,.string d3];have h:=h.alloc (.cells #[.bool false,.string ⟨#[]⟩,.string ⟨#[]⟩] 48);simp only[zX]at h;exact h
 have ar:Hid (Bk ((((w.alloc (.cells #[.bool g1,.string n1,.string d1] 48)).alloc (.cells #[.bool g2,.string n2,.string d2] 48)).alloc (.cells #[.bool g3,.string n3,.string d3] 48)).alloc (.cells #[.bool false,.string ⟨#[]⟩,.string ⟨#[]⟩] 48)) (w.heap.size+1+1+1) 48 [.bool false,.string ⟨#[]⟩,.string ⟨#[]⟩]):=by have h:=Bk.new (((w.alloc (.cells #[.bool g1,.string n1,.string d1] 48)).alloc (.cells #[.bool g2,.string n2,.string d2] 48)).alloc (.cells #[.bool g3,.string n3,.string d3] 48)) 48 [.bool false,.string ⟨#[]⟩,.string ⟨#[]⟩];simp only[zX]at h;exact h
 replace hE:=zh hE;have k1:=zh (km.o ((((w.alloc (.cells #[.bool g1,.string n1,.string d1] 48)).alloc (.cells #[.bool g2,.string n2,.string d2] 48)).alloc (.cells #[.bool g3,.string n3,.string d3] 48)).alloc (.cells #[.bool false,.string ⟨#[]⟩,.string ⟨#[]⟩] 48)) (hE.o.below af.o));have y0:=ad.o.c0;have y1:=ad.o.c1;have y2:=ad.o.c2;have y9:=ad.o.lt;have z0:=ae.o.c0;have z1:=ae.o.c1;have z2:=ae.o.c2;have z9:=ae.o.lt;go_enter func76,ntmps76
 go_wp2_with fail
 refine k1.o.q fun w3 hb=>?_;have ai:=af.t hb;have al:=zh (ak.o.below hb);have am:=zh (ad.o.below hb);have ao:=zh (ae.o.below hb);have au:=zh (ar.o.below hb);clear hb af ak ad ae ar k1 y0 y1 y2 y9 z0 z1 z2 z9;have ag:Hid (Below w.heap.size w (w3.alloc (.cells #[.bool g4,.string n4,.string d4] 48))):=ai.o.alloc ai.o.size _;have ab:=zh (al.o.alloc (.cells #[.bool g4,.string n4,.string d4] 48));have an:=zh (am.o.alloc (.cells #[.bool g4,.string n4,.string d4] 48));have ap:=zh (ao.o.alloc (.cells #[.bool g4,.string n4,.string d4] 48));have av:=zh (au.o.alloc (.cells #[.bool g4,.string n4,.string d4] 48));clear ai al am ao au;have aq:Hid (Bk (w3.alloc (.cells #[.bool g4,.string n4,.string d4] 48)) w3.heap.size 48 [.bool g4,.string n4,.string d4]):=Bk.new _ _ _;have k2:=zh (ka.o (w3.alloc (.cells #[.bool g4,.string n4,.string d4] 48)) (hE.o.below ag.o));have x0:=ab.o.c0;have x1:=ab.o.c1;have x2:=ab.o.c2;have x9:=ab.o.lt
 go_wp2_with fail
 refine k2.o.q fun w5 hb=>?_;have aj:=ag.t hb;have d:=zh (ab.o.below hb);have aB:=zh (an.o.below hb);have aC:=zh (ap.o.below hb);have aw:=zh (av.o.below hb);have aD:=zh (aq.o.below hb);clear hb ag ab an ap av aq k2 x0 x1 x2 x9;have x0:=d.o.c0;have x1:=d.o.c1;have x2:=d.o.c2;have x9:=d.o.lt;have aH:=d.o.frozen 0;have aI:=d.o.frozen 1;have aJ:=d.o.frozen 2;have ay:Hid (Below w.heap.size w (((w5.setCell ⟨w.heap.size,0,none⟩ (.bool g5)).setCell ⟨w.heap.size,1,none⟩ (.string n5)).setCell ⟨w.heap.size,2,none⟩ (.string d5))):=(((aj.o.setCell (p:=⟨w.heap.size,0,none⟩) (zB _) _).setCell (p:=⟨w.heap.size,1,none⟩) (zB _) _).setCell (p:=⟨w.heap.size,2,none⟩) (zB _) _);have aA:=zh ((Bk.set (Bk.set (Bk.set d.o 0 (.bool g5)) 1 (.string n5)) 2 (.string d5)));have aa:=zh ((((aw.o.far (p:=⟨w.heap.size,0,none⟩) (by first|(simp only[];omega)|omega) (.bool g5)).far (p:=⟨w.heap.size,1,none⟩) (by first|(simp only[];omega)|omega) (.string n5)).far (p:=⟨w.heap.size,2,none⟩) (by first|(simp only[];omega)|omega) (.string d5)));clear aj d aw;have r0:=aa.o.c0;have r1:=aa.o.c1;have r2:=aa.o.c2;have r9:=aa.o.lt;have aE:=aa.o.frozen 0;have aF:=aa.o.frozen 1;have aG:=aa.o.frozen 2;have az:Hid (Below w.heap.size w ((((((w5.setCell ⟨w.heap.size,0,none⟩ (.bool g5)).setCell ⟨w.heap.size,1,none⟩ (.string n5)).setCell ⟨w.heap.size,2,none⟩ (.string d5)).setCell ⟨w.heap.size+1+1+1,0,none⟩ (.bool g5)).setCell ⟨w.heap.size+1+1+1,1,none⟩ (.string n5)).setCell ⟨w.heap.size+1+1+1,2,none⟩ (.string d5))):=(((ay.o.setCell (p:=⟨w.heap.size+1+1+1,0,none⟩) (by simp only[];omega) _).setCell (p:=⟨w.heap.size+1+1+1,1,none⟩) (by simp only[];omega) _).setCell (p:=⟨w.heap.size+1+1+1,2,none⟩) (by simp only[];omega) _);have ah:Hid (Bk ((((((w5.setCell ⟨w.heap.size,0,none⟩ (.bool g5)).setCell ⟨w.heap.size,1,none⟩ (.string n5)).setCell ⟨w.heap.size,2,none⟩ (.string d5)).setCell ⟨w.heap.size+1+1+1,0,none⟩ (.bool g5)).setCell ⟨w.heap.size+1+1+1,1,none⟩ (.string n5)).setCell ⟨w.heap.size+1+1+1,2,none⟩ (.string d5)) (w.heap.size+1+1+1) 48 [.bool g5,.string n5,.string d5]):=(Bk.set (Bk.set (Bk.set aa.o 0 (.bool g5)) 1 (.string n5)) 2 (.string d5));go_wp2
 (try simp only[Exit.inBlock,Exit.then])
 have s0:=ah.o.c0;have s1:=ah.o.c1;have s2:=ah.o.c2;have s9:=ah.o.lt;refine zm (v:=.agg #[.bool g5,.string n5,.string d5]) (by simp[results,results76,go_sem,s0,s1,s2]) rfl ⟨rfl,az.o⟩
end Sh
end
section
open Go.RowKit Go.Shelf
namespace Nt
def InInt(z:Int):Prop:=-9223372036854775808<=z/\z<=9223372036854775807
end Nt
end
section
open Go.RowKit
namespace Nt
def Dg(k:Nat)(q:Rat):Prop:=q.num.natAbs<10^k/\q.den<10^k
theorem Dg.mono{k m:Nat}{q:Rat}(h:Dg k q)(hk:k<=m):Dg m q:=by
 have:10^k<=10^m:=zi (by omega) hk;exact⟨zJ h.1 this,zJ h.2 this⟩
theorem Ib(n:Int)(d:Nat)(hd:d≠0):(mkRat n d).num.natAbs<=n.natAbs/\(mkRat n d).den<=d:=by
 have e:n=sg (decide (n<0)) n.natAbs:=(Cb n).symm;rw[e,Mu _ _ _ hd,Mv _ _ _ hd,BJ,BJ];exact⟨wR _ _,wR _ _⟩
theorem Dg.add{k m:Nat}{p q:Rat}(hp:Dg k p)(hq:Dg m q):Dg (k+m+1) (p+q):=by
 have hd:p.den*q.den≠0:=xt p.den_nz q.den_nz;have h:=Ib (p.num*q.den+q.num*p.den) (p.den*q.den) hd;rw[Kg]at h;have e:10^(k+m+1)=10^k*10^m*10:=by rw[yY,wF]
 have h1:p.num.natAbs*q.den<10^k*10^m:=xj hp.1 hq.2;have h2:q.num.natAbs*p.den<10^m*10^k:=xj hq.1 hp.2;have h3:p.den*q.den<10^k*10^m:=xj hp.2 hq.2;rw[yN (10^m)]at h2;have h4:=Int.natAbs_add_le (p.num*q.den) (q.num*p.den);rw[Int.natAbs_mul,Int.natAbs_mul,Int.natAbs_natCast,Int.natAbs_natCast]at h4;unfold Dg;rw[e];generalize 10^k*10^m=X at *;exact⟨by omega,by omega⟩
theorem Dg.neg{k:Nat}{q:Rat}(h:Dg k q):Dg k (-q):=⟨by show (-q.num).natAbs<10^k;rw[Int.natAbs_neg];exact h.1,h.2⟩
theorem Dg.sub{k m:Nat}{p q:Rat}(hp:Dg k p)(hq:Dg m q):Dg (k+m+1) (p-q):=by rw[Rat.sub_eq_add_neg];exact hp.add hq.neg
theorem Dg.mul{k m:Nat}{p q:Rat}(hp:Dg k p)(hq:Dg m q):Dg (k+m) (p*q):=by
 have hd:p.den*q.den≠0:=xt p.den_nz q.den_nz;have h:=Ib (p.num*q.num) (p.den*q.den) hd;rw[<-Rat.mul_def']at h;have h1:p.num.natAbs*q.num.natAbs<10^k*10^m:=xj hp.1 hq.1;have h3:p.den*q.den<10^k*10^m:=xj hp.2 hq.2;rw[Int.natAbs_mul]at h;unfold Dg;rw[wF];exact⟨by omega,by omega⟩
theorem Dg.div{k m:Nat}{p q:Rat}(hp:Dg k p)(hq:Dg m q)(h0:q≠0):Dg (k+m) (p/q):=by
 have hn:=CI h0;have hd:p.den*q.num.natAbs≠0:=xt p.den_nz (by omega);have h:=Ib (sg (decide (p.num<0) != decide (q.num<0)) (p.num.natAbs*q.den)) (p.den*q.num.natAbs) hd;rw[Rj,BJ]at h;have h1:p.num.natAbs*q.den<10^k*10^m:=xj hp.1 hq.2;have h3:p.den*q.num.natAbs<10^k*10^m:=xj hp.2 hq.1;unfold Dg;rw[wF];exact⟨by omega,by omega⟩
end Nt
end
section
open Go.RowKit Go.Shelf
namespace Nt
abbrev XC(w:World)(g1:Bool)(n1 d1:ByteArray):World:=w.alloc (.cells #[.bool g1,.string n1,.string d1] 48)
theorem FB(w:World)(g1:Bool)(n1 d1:ByteArray):Below w.heap.size w (XC w g1 n1 d1):=(zI _ w).alloc (zB _) _
end Nt
end
end Go.Proofs.YtefmpngjjmddjaaGreatDoor

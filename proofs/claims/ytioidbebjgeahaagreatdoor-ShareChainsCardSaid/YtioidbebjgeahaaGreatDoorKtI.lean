/- Texts that the proof needs: ShaEff, ShaHeadP, ShaLaw3, ShaFew. -/
import Derived.WalkMore
import Derived.Test.YtioidbebjgeahaaGreatDoorKtA
import Derived.Test.YtioidbebjgeahaaGreatDoorKtB
import Derived.Test.YtioidbebjgeahaaGreatDoorKtC
import Derived.Test.YtioidbebjgeahaaGreatDoorKtD
import Derived.Test.YtioidbebjgeahaaGreatDoorKtE
import Derived.Test.YtioidbebjgeahaaGreatDoorKtF
import Derived.Test.YtioidbebjgeahaaGreatDoorKtG
import Derived.Test.YtioidbebjgeahaaGreatDoorKtH
set_option maxHeartbeats 64000000
set_option maxRecDepth 100000
namespace Go.Proofs.YtioidbebjgeahaaGreatDoor
section
open Go.RowKit Go.Shelf
namespace Sh
open Nt Ci
theorem infoPt:(Tryz.prog.info? 71).map (fun i=>(i.zero,i.size,i.bytes))=some (some (.pointer none),1,8):=by kernel_rfl
theorem listB_len {n:Nat} {F:List Int} (h:listB n F=true):F.length≤n:=by
 have hk:∀k (hk:k<F.length),(k:Int)≤F[k]:=fun k=>by
  induction k with
  | zero=>intro hk;exact(lst_at h hk).1.1
  | succ k ih =>
    intro hk;have h1:=ih (by omega);have h2:=(lst_at h hk).2 (by omega);simp only[Nat.add_sub_cancel]at h2;omega
 by_cases h0:0<F.length
 · have h1:=hk (F.length-1) (by omega);have h2:=(lst_at h (by omega:F.length-1<F.length)).1.2;omega
 · omega
theorem shls_below {W W':World} {A:Option Addr} {l:List (Option Addr×Nat×List Int)} (h:InLs W A l) (hb:Below W.heap.size W W'):InLs W' A l:=fun h0=>by
 obtain⟨b,off,e,hl,hc⟩:=h h0;exact⟨b,off,e,Nat.lt_of_lt_of_le hl hb.size,fun j hj=>⟨(hb.cell (p:=⟨b,_,none⟩) hl).trans (hc j hj).1,(hc j hj).2.1.below hb,(hc j hj).2.2⟩⟩
theorem VMC.off {w:World} {vb mb n C b o:Nat} {val:Nat→Rat} {x:Value} (h:VMC w vb mb n val C) (hc:w.cell? ⟨b,o,none⟩=some x):b≠mb:=fun e=>by
 obtain⟨c,f,⟨D,⟨es,clock,hb,_⟩,_⟩,_⟩:=h.m;subst e;rw[World.cell?,hb]at hc
 cases hc
def EfPost (s:SR) (F:List Int) (w:World) (e:Ending) (w':World):Prop :=
 (if soundB s=true∧listB s.ps.length F=true then
   (if tooMany s.ps.length (edges s) (toN F)=true then e=.returned (.tuple #[.slice none 0 0,.int .i64 2])
    else ∃b,e=.returned (.tuple #[.slice (some ⟨b,0,none⟩) s.ps.length s.ps.length,.int .i64 0])∧w.heap.size≤b∧RowB w' b s.ps.length fun p=>rq (effV SQ s.ps.length (capL s.cap) (toN F) p))
   else e=.returned (.tuple #[.slice none 0 0,.int .i64 1]))∧Below w.heap.size w w'
theorem eff_any (s : SR) (Ap Ac Av Af:Option Addr) (cp cc cv cf:Nat) (F:List Int) (w:World) (hE:Env w) (hs:StIn w s Ap Ac Av) (hc3:s.cap.length≤300) (hF:InInt w Af F) (hFl:F.length≤140737488355328) :
 Calls Tryz.prog 17 #[.agg #[.slice Ap s.ps.length cp,.slice Ac s.cap.length cc,.slice Av s.vot.length cv],.slice Af F.length cf] w (EfPost s F w):=by
 have hp47:=hs.np;have hX0:Hid (Bk (w.alloc (.cells #[.slice Ap s.ps.length cp,.slice Ac s.cap.length cc,.slice Av s.vot.length cv] 25)) w.heap.size 25 (SC s Ap Ac Av cp cc cv)):=Bk.new w _ _;have hB0:Hid (Below w.heap.size w (w.alloc (.cells #[.slice Ap s.ps.length cp,.slice Ac s.cap.length cc,.slice Av s.vot.length cv] 25))):=(Below.refl _ w).alloc (Nat.le_refl _) _;have hBad:Hid (∀e w',(¬(soundB s=true∧listB s.ps.length F=true))→e=.returned (.tuple #[.slice none 0 0,.int .i64 1])→Below w.heap.size w w'→EfPost s F w e w'):=fun e w' h1 h2 h3=>⟨by rw[if_neg h1];exact h2,h3⟩;have hMany:Hid (∀e w',soundB s=true∧listB s.ps.length F=true→tooMany s.ps.length (edges s) (toN F)=true→e=.returned (.tuple #[.slice none 0 0,.int .i64 2])→Below w.heap.size w w'→EfPost s F w e w'):=fun e w' h1 h2 h3 h4=>⟨by rw[if_pos h1,if_pos h2];exact h3,h4⟩;have hGood:Hid (∀e w' b,soundB s=true∧listB s.ps.length F=true→tooMany s.ps.length (edges s) (toN F)=false→e=.returned (.tuple #[.slice (some ⟨b,0,none⟩) s.ps.length s.ps.length,.int .i64 0])→w.heap.size≤b→RowB w' b s.ps.length (fun p=>rq (effV SQ s.ps.length (capL s.cap) (toN F) p))→Below w.heap.size w w'→EfPost s F w e w'):=fun e w' b h1 h2 h3 h4 h5 h6=>⟨by rw[if_pos h1,if_neg (by rw[h2];decide)];exact⟨b,h3,h4,h5⟩,h6⟩;have kS:=fun W (h:Below w.heap.size w W)=>Sound_any s Ap Ac Av cp cc cv W (hE.below h) (hs.below h);have hsW:Hid (∀W,Below w.heap.size w W→StIn W s Ap Ac Av):=fun W h=>hs.below h;have kR:=Lib.hid (fun W (h:Below w.heap.size w W)=>Ranks_any s Ap Ac Av Af cp cc cv cf F W (hE.below h) (hsW.out W h) hc3 (hF.below h) hFl);have kC:=Lib.hid (fun W (h:Below w.heap.size w W)=>Components_any s Ap Ac Av cp cc cv W (hE.below h) (hsW.out W h) hc3);have kP:=fun W (h:Below w.heap.size w W)=>shproper_any Af cf (s.ps.length:Int) F W (hF.below h) hFl;replace hE:=Lib.hid hE;replace hs:=Lib.hid hs;replace hF:=Lib.hid hF
 cases hsd:soundB s with
 | false =>
   have hno:Hid (¬(soundB s=true∧listB s.ps.length F=true)):=fun h=>by rw[hsd]at h;cases h.1
   rw[hsd]at kS;replace kS:=Lib.hid kS;replace hsd:=Lib.hid hsd;have u0:=hX0.out.cell (j:=0) rfl;have u1:=hX0.out.cell (j:=1) rfl;have u2:=hX0.out.cell (j:=2) rfl;have u9:=hX0.out.lt;go_enter Tryz.func17,Tryz.ntmps17
   go_wp2_with fail
   go_step3
   go_wp2_with fail
   refine(kS.out _ hB0.out).mono ?_;rintro e w1 ⟨rfl,hb⟩;have hB1:=Lib.hid (hB0.out.trans (hb.mono hB0.out.size));have hX1:=Lib.hid (hX0.out.below hb);clear hb kS hB0 hX0 u0 u1 u2 u9;go_wp2;rw[Exit.noGoto_ret];go_ret2;exact hBad.out _ _ hno.out rfl hB1.out
 | true =>
   rw[hsd]at kS;replace kS:=Lib.hid kS;replace hsd:=Lib.hid hsd
   cases hli:listB s.ps.length F with
   | false =>
     have hno:Hid (¬(soundB s=true∧listB s.ps.length F=true)):=fun h=>by rw[hli]at h;cases h.2
     rw[hli]at kP;replace kP:=Lib.hid kP;replace hli:=Lib.hid hli;have u0:=hX0.out.cell (j:=0) rfl;have u1:=hX0.out.cell (j:=1) rfl;have u2:=hX0.out.cell (j:=2) rfl;have u9:=hX0.out.lt;go_enter Tryz.func17,Tryz.ntmps17
     go_wp2_with fail
     go_step3
     go_wp2_with fail
     refine(kS.out _ hB0.out).mono ?_;rintro e w1 ⟨rfl,hb⟩;have hB1:=Lib.hid (hB0.out.trans (hb.mono hB0.out.size));have hX1:=Lib.hid (hX0.out.below hb);clear hb kS hB0 hX0 u0 u1 u2 u9;have u0:=hX1.out.cell (j:=0) rfl;have u1:=hX1.out.cell (j:=1) rfl;have u2:=hX1.out.cell (j:=2) rfl;have u9:=hX1.out.lt
     go_wp2_with fail
     refine(kP.out _ hB1.out).mono ?_;rintro e wq ⟨rfl,hq⟩;obtain rfl:=hq.symm;go_wp2;rw[Exit.noGoto_ret];go_ret2;exact hBad.out _ _ hno.out rfl hB1.out
   | true =>
     rw[hli]at kP;replace kP:=Lib.hid kP;have u0:=hX0.out.cell (j:=0) rfl;have u1:=hX0.out.cell (j:=1) rfl;have u2:=hX0.out.cell (j:=2) rfl;have u9:=hX0.out.lt;go_enter Tryz.func17,Tryz.ntmps17
     go_wp2_with fail
     go_step3
     go_wp2_with fail
     refine(kS.out _ hB0.out).mono ?_;rintro e w1 ⟨rfl,hb⟩;have hB1:=Lib.hid (hB0.out.trans (hb.mono hB0.out.size));have hX1:=Lib.hid (hX0.out.below hb);clear hb kS hB0 hX0 u0 u1 u2 u9;have u0:=hX1.out.cell (j:=0) rfl;have u1:=hX1.out.cell (j:=1) rfl;have u2:=hX1.out.cell (j:=2) rfl;have u9:=hX1.out.lt
     go_wp2_with fail
     refine(kP.out _ hB1.out).mono ?_;rintro e wq ⟨rfl,hq⟩;obtain rfl:=hq.symm;clear u0 u1 u2 u9;have hok:Hid (soundB s=true∧listB s.ps.length F=true):=⟨hsd.out,hli⟩;have hFn:=listB_len hli;have hn60:=sound_n60 hsd.out;replace hli:=Lib.hid hli;clear kP hBad;have kR1:=Lib.hid (kR.out w1 hB1.out);have u0:=hX1.out.cell (j:=0) rfl;have u1:=hX1.out.cell (j:=1) rfl;have u2:=hX1.out.cell (j:=2) rfl;have u9:=hX1.out.lt
     go_wp2_with fail
     refine kR1.out.mono ?_;rintro e w2 ⟨hr,hb⟩;rw[if_pos hok.out]at hr;obtain⟨rkb,rfl,hrk1,hrk⟩:=hr;have hB2:=Lib.hid (hB1.out.trans (hb.mono hB1.out.size));have hX2:=Lib.hid (hX1.out.below hb);replace hrk:=Lib.hid hrk;replace hrk1:=Lib.hid hrk1;clear hb kR kR1 u0 u1 u2 u9 hX1;have kC1:=Lib.hid (kC.out w2 hB2.out);have u0:=hX2.out.cell (j:=0) rfl;have u1:=hX2.out.cell (j:=1) rfl;have u2:=hX2.out.cell (j:=2) rfl;have u9:=hX2.out.lt
     go_wp2_with fail
     refine kC1.out.mono ?_;rintro e w4 ⟨hr,hb⟩;rw[if_pos hsd.out]at hr;obtain⟨Al,cl,l,rfl,hll,hbr⟩:=hr;have hB4:=Lib.hid (hB2.out.trans (hb.mono hB2.out.size));have hX4:=Lib.hid (hX2.out.below hb);have hrk4:=Lib.hid (hrk.out.below hb);replace hll:=Lib.hid hll;replace hbr:=Lib.hid hbr;clear hb kC kC1 u0 u1 u2 u9 hX2 hrk hB2;have hmm:=@run_makeMap Tryz.prog;obtain⟨mb,hmb⟩:∃x,x=w4.heap.size:=⟨_,rfl⟩;obtain⟨vb,hvb⟩:∃x,x=w4.heap.size+1:=⟨_,rfl⟩;obtain⟨w5,hw5⟩:∃W,W=((w4.alloc (.map #[] 0)).alloc (.cells #[.map (some w4.heap.size)] 68)):=⟨_,rfl⟩;have hB5:Hid (Below w4.heap.size w4 w5):=by rw[hw5];exact((Below.refl _ w4).alloc (Nat.le_refl _) _).alloc (by simp) _
     have hV5:Hid (VMC w5 vb mb s.ps.length (iniV (toN F) 0) 0):=by rw[hw5,hvb,hmb,iniV_zero];exact⟨by have h:=Bk.new (w4.alloc (.map #[] 0)) 68 [.map (some w4.heap.size)];rw[World.size_alloc]at h;exact h,⟨0,fun _=>none,(MapK.made w4 Tryz.prog 3 κi).alloc _,Nat.le_refl _,fun _ _=>rfl⟩,by omega⟩
     go_wp2_with fail
     (try rw[←hw5])
     (try rw[←hvb])
     replace hw5:=Lib.hid hw5;replace hvb:=Lib.hid hvb;replace hmb:=Lib.hid hmb;clear hmm;have hwl4:Hid (w.heap.size<w4.heap.size):=hX4.out.lt;have hBz:=Lib.hid (fun W (h:Below w4.heap.size w4 W)=>hB4.out.trans (h.mono hB4.out.size));have hlt5:Hid (mb=w4.heap.size∧vb=w4.heap.size+1):=⟨hmb.out,hvb.out⟩
     go_loopw [54] (fun ix wr=>∃(k:Nat),k≤F.length∧ix=.int .i64 (k:Int)∧Hid (Below w4.heap.size w4 wr)∧Hid (VMC wr vb mb s.ps.length (iniV (toN F) k) k)) (fun ix _=>F.length-(intOf ix).toNat)
     case atStart=>exact⟨0,Nat.zero_le _,rfl,hB5,hV5⟩
     case round =>
      clear hB5 hV5;obtain⟨k,hk,rfl,hBk,hVk⟩:=hrel;obtain⟨wz,rfl⟩:∃z,z=wr:=⟨_,rfl⟩
      by_cases hkl:k<F.length
      · obtain⟨p,hp1,hp2,hp3⟩:=toN_at hli.out hkl;obtain⟨fb,fo,rfl,hfl,hcc⟩:=(hF.out.below (hBz.out _ hBk.out)) (by omega);have e1:=hcc k hkl;rw[hp1]at e1;clear hcc;have j0:(0:Int)≤(k:Int):=by omega
        have j1:(k:Int)<(F.length:Int):=by omega
        replace hp1:=Lib.hid hp1;replace hp3:=Lib.hid hp3
        go_wp2_with fail
        refine ef9 vb mb s.ps.length k p (iniV (toN F) k) wz (hE.out.below (hBz.out _ hBk.out)) hVk.out (by omega) (by omega) ?_;intro _ _ _ we hVe hKe;have hBe:Hid (Below w4.heap.size w4 we):=hKe.out.to_below hBk.out (fun x hx=>by have:=hlt5.out.1;simp at hx;omega);have hVf:Hid (VMC we vb mb s.ps.length (iniV (toN F) (k+1)) (k+1)):=hVe.out.congr fun x _=>(iniV_succ hp3.out x).symm;clear hVe hKe hBk hVk;go_wp2;exact⟨⟨k+1,by omega,by go_num,hBe,hVf⟩,by simp only[intOf];omega⟩
      · obtain rfl : k=F.length:=by omega
        have hX6:=Lib.hid (hX4.out.below hBk.out);have hrk6:=Lib.hid (hrk4.out.below hBk.out);have hll6:=Lib.hid (shls_below hll.out hBk.out);have hB6:=Lib.hid (hBz.out _ hBk.out);clear hX4 hrk4 hll hBz
        go_wp2_with fail
        go_step3
        go_wp2_with fail
        have hlc:l.length=(comps s.ps.length (edges s)).length:=by have:=congrArg List.length hbr.out;simpa [bare,compsI] using this
        have hV6:Hid (VMC wz vb mb s.ps.length (iniV (toN F) F.length) F.length):=hVk;have hvl:Hid (mb<wz.heap.size∧vb<wz.heap.size):=⟨hVk.out.lt,hVk.out.x.lt⟩;clear hVk;have hin:Hid (InN s.ps.length (edges s)):=by rw[←edges_cap];exact(caps_of hsd.out).inN
        have hcs60:(comps s.ps.length (edges s)).length≤60:=by have h1:=comps_len (n:=s.ps.length) (E:=edges s);have h2:=ords_len hin.out;omega
        have hcl60:Hid (∀t (h:t<(comps s.ps.length (edges s)).length),((comps s.ps.length (edges s))[t]).length≤60∧∀p,p∈(comps s.ps.length (edges s))[t]→p<s.ps.length):=fun t h=>⟨by have h1:=nodup_len _ _ (comps_nodup h) (comps_lt hin.out h);omega,comps_lt hin.out h⟩;obtain⟨i0,hi0,hzz⟩:=Option.map_eq_some_iff.1 infoIr;simp only[Prod.mk.injEq]at hzz;obtain⟨hz0,hz1,hz2⟩:=hzz;replace hi0:=Lib.hid hi0;replace hz0:=Lib.hid hz0;replace hz1:=Lib.hid hz1;replace hz2:=Lib.hid hz2;obtain⟨i1,hi1,hzz⟩:=Option.map_eq_some_iff.1 infoPt;simp only[Prod.mk.injEq]at hzz;obtain⟨hy0,hy1,hy2⟩:=hzz;replace hi1:=Lib.hid hi1;replace hy0:=Lib.hid hy0;replace hy1:=Lib.hid hy1;replace hy2:=Lib.hid hy2;have hlc2:=Lib.hid hlc;rw[hlc];clear hlc;have hS0:Hid (SyM wz wz.heap.size (.slice none 0 0) []):=SyM.start _ _;have hr0:Hid (Value.int .i64 0=.int .i64 ((sysT s.ps.length (edges s) (toN F) 0).flatten.length:Nat)):=rfl
        go_loopw [14,15,65] (fun vx rx ix wr=>∃(t:Nat) (Es:List Ent) (Ay:Option Addr) (cy:Nat),t≤(comps s.ps.length (edges s)).length∧ix=.int .i64 (t:Int)∧rx=.int .i64 ((sysT s.ps.length (edges s) (toN F) t).flatten.length:Nat)∧vx=.slice Ay Es.length cy∧Hid (Es.map Ent.u=sysN s.ps.length (edges s) (toN F) t)∧Hid (SyM wr wz.heap.size (.slice Ay Es.length cy) Es)∧Hid (∀u,u∈sysT s.ps.length (edges s) (toN F) t→u.length≤8)∧Hid (Below wz.heap.size wz wr)) (fun _ _ ix _=>(comps s.ps.length (edges s)).length-(intOf ix).toNat)
        case atStart=>exact⟨0,[],none,0,Nat.zero_le _,rfl,hr0.out,rfl,rfl,hS0,(fun u h=>by cases h),Below.refl _ _⟩
        case round =>
         clear hS0 hr0;obtain⟨t,Es,Ay,cy,ht,rfl,rfl,rfl,hEs,hSy,h8,hBt⟩:=hrel;obtain⟨wt,rfl⟩:∃z,z=wr:=⟨_,rfl⟩
         by_cases htl:t<(comps s.ps.length (edges s)).length
         · obtain ⟨lb0,lo0,rfl,hlb0,hcc⟩:=(shls_below hll6.out hBt.out) (by rw[hlc2.out];omega);have htl2:t<l.length:=by rw[hlc2.out];exact htl
           obtain⟨e1,hin1,_⟩:=hcc t htl2;obtain⟨_,hlt⟩:=shbare_at hbr.out htl2;rw[hlt]at e1 hin1;rw[List.length_map]at e1;obtain⟨hc60,hcn⟩:=hcl60.out t htl;have hrs:=reach_succ (E:=edges s) (F:=toN F) htl;have hnil:=Lib.hid (fun h=>sysN_nil (F:=toN F) htl h);have hmor:=Lib.hid (fun h=>sysN_more (F:=toN F) htl h);have hbig:=Lib.hid (fun h=>big_many (F:=toN F) htl h);have hst1:=sysT_succ (E:=edges s) (F:=toN F) htl;have hfl1:(sysT s.ps.length (edges s) (toN F) (t+1)).flatten.length≤60:=by have h1:=sysT_flat (n:=s.ps.length) (E:=edges s) (F:=toN F) (t:=t+1);have h2:=syst_len (F:=toN F) (caps_of hsd.out);rw[edges_cap]at h2;omega
           obtain⟨c,hc⟩:∃c,c=((comps s.ps.length (edges s))[t]):=⟨_,rfl⟩;rw[←hc]at e1 hin1 hc60 hcn hrs hnil hmor hbig hst1;have h81:Hid ((unk (edges s) (toN F) c).length≤8→∀u,u∈sysT s.ps.length (edges s) (toN F) (t+1)→u.length≤8):=fun h u hu=>by rw[hst1,List.mem_append,List.mem_singleton]at hu;exact hu.elim (h8.out u) (fun e=>by rw[e];exact h)
           replace hc:=Lib.hid hc;replace hst1:=Lib.hid hst1;replace hin1:=Lib.hid hin1;replace hcn:=Lib.hid hcn;obtain⟨ah,hah⟩:∃x,x=l[t].1:=⟨_,rfl⟩;obtain⟨ch,hch⟩:∃x,x=l[t].2.1:=⟨_,rfl⟩;rw[←hah]at e1 hin1;rw[←hch]at e1;replace hah:=Lib.hid hah;replace hch:=Lib.hid hch;clear hcc hlt;obtain⟨R0,hR0⟩:∃x,x=(sysT s.ps.length (edges s) (toN F) t).flatten.length:=⟨_,rfl⟩;obtain⟨R1,hR1⟩:∃x,x=(sysT s.ps.length (edges s) (toN F) (t+1)).flatten.length:=⟨_,rfl⟩;rw[←hR0,←hR1]at hrs;rw[←hR1]at hfl1;rw[←hR0];have kk0:(0:Int)≤(t:Int):=by omega
           have kk1:(t:Int)<((comps s.ps.length (edges s)).length:Int):=by omega
           obtain⟨xb,hxb⟩:∃x,x=wt.heap.size:=⟨_,rfl⟩;obtain⟨wu,hwu⟩:∃W,W=(wt.alloc (.cells #[.slice none 0 0,.slice none 0 0,.slice none 0 0] 74)):=⟨_,rfl⟩;have hBu:Hid (Below wt.heap.size wt wu):=by rw[hwu];exact(Below.refl _ wt).alloc (Nat.le_refl _) _
           have hEu:Hid (EntB wu wt.heap.size xb none 0 []):=by rw[hwu,hxb];exact EntB.start (Bk.new wt _ _)
           have hxl:Hid (wt.heap.size≤xb):=Nat.le_of_eq hxb.symm
           go_wp2_with fail
           (try rw[←hwu])
           (try rw[←hxb])
           replace hwu:=Lib.hid hwu;replace hxb:=Lib.hid hxb;replace hR0:=Lib.hid hR0;replace hR1:=Lib.hid hR1;have hc60b:Hid (c.length≤60):=hc60;have htl9:Hid (t<(comps s.ps.length (edges s)).length):=htl;have hBz2:=Lib.hid (fun W (h:Below wt.heap.size wt W)=>(hBt.out.trans (h.mono hBt.out.size):Below wz.heap.size wz W))
           go_loopw [73] (fun jx wr=>∃(i:Nat) (A:Option Addr) (cu:Nat),i≤c.length∧jx=.int .i64 (i:Int)∧Hid (EntB wr wt.heap.size xb A cu (unk (edges s) (toN F) (c.take i)))∧Hid (Below wt.heap.size wt wr)) (fun jx _=>c.length-(intOf jx).toNat)
           case atStart=>exact⟨0,none,0,Nat.zero_le _,rfl,hEu,hBu⟩
           case round =>
            clear hEu hBu;obtain⟨i,A,cu,hi,rfl,hEi,hBi⟩:=hrel;obtain⟨wi,rfl⟩:∃z,z=wr:=⟨_,rfl⟩
            by_cases hil:i<c.length
            · obtain ⟨hb9,ho9,rfl,hlb9,hcc⟩:=(hin1.out.below hBi.out) (by rw[List.length_map];omega);have e1:=hcc i (by rw[List.length_map];exact hil);rw[List.getElem_map]at e1;have hpn:=hcn.out _ (List.getElem_mem hil);have hut:=unk_take (E:=edges s) (F:=toN F) hil;have hul:(unk (edges s) (toN F) (c.take i)).length≤60:=Nat.le_trans unk_len (by rw[List.length_take];omega);obtain⟨p,hp⟩:∃p,p=c[i]:=⟨_,rfl⟩;rw[←hp]at e1 hpn hut;replace hp:=Lib.hid hp;clear hcc;have hrkt:=Lib.hid ((hrk6.out.below (hBz2.out _ hBi.out)));have r1:=hrkt.out.cell p hpn;have r9:=hrkt.out.lt;have j0:(0:Int)≤(i:Int):=by omega
              have j1:(i:Int)<(c.length:Int):=by omega
              have q0:(0:Int)≤(p:Int):=by omega
              have q1:(p:Int)<(s.ps.length:Int):=by omega
              generalize rk (edges s) (toN F) p=rv at r1 hut
              by_cases hrv:0<rv
              rotate_left
              · have t1:decide (0<rv)=false:=decide_eq_false hrv;rw[if_neg hrv,List.append_nil]at hut;have hE2:Hid (EntB wi wt.heap.size xb A cu (unk (edges s) (toN F) (c.take (i+1)))):=by rw[hut];exact hEi.out
                replace hut:=Lib.hid hut;replace hrv:=Lib.hid hrv;clear hEi;go_wp2;exact⟨⟨i+1,A,cu,by omega,by go_num,hE2,hBi⟩,by simp only[intOf];omega⟩
              · have t1:decide (0<rv)=true:=decide_eq_true hrv;rw[if_pos hrv]at hut;replace hrv:=Lib.hid hrv;obtain⟨m,hm⟩:∃m,m=(unk (edges s) (toN F) (c.take i)).length:=⟨_,rfl⟩;have x0:=hEi.out.x.cell (j:=0) rfl;have x9:=hEi.out.x.lt;rw[←hm]at x0 hul;have hEn:Hid (EntB (wi.alloc (.cells #[.int .i64 (p:Int)] 3)) wt.heap.size xb A cu (unk (edges s) (toN F) (c.take i))):=hEi.out.below ((Below.refl _ wi).alloc (Nat.le_refl _) _);have hBn:Hid (Below wt.heap.size wt (wi.alloc (.cells #[.int .i64 (p:Int)] 3))):=hBi.out.alloc hBi.out.size _;have had:Hid (∀j u,[Value.int .i64 (p:Int)][j]? = some u→(wi.alloc (.cells #[.int .i64 (p:Int)] 3)).cell? (Addr.add ⟨wi.heap.size,0,none⟩ j)=some u):=Ci.head_new wi _ 3;have hrow:Hid ((wi.alloc (.cells #[.int .i64 (p:Int)] 3)).ownsRow wt.heap.size 3 1 (.slice A m cu) m (intsL (unk (edges s) (toN F) (c.take i)))):=by have h:=hEn.out.o;rw[←hm]at h;exact h
                have hbs:Hid (wt.heap.size≤(wi.alloc (.cells #[.int .i64 (p:Int)] 3)).heap.size):=hBn.out.size;have hul2:=Lib.hid hul
                have hst:Hid (∀v' w',w'.ownsRow wt.heap.size 3 1 v' (m+1) (intsL (unk (edges s) (toN F) (c.take i))++[.int .i64 (p:Int)])→(wi.alloc (.cells #[.int .i64 (p:Int)] 3)).grownBy w' (Value.slice A m cu).ownBlock→(v'.ownBlock=(Value.slice A m cu).ownBlock∨v'.ownBlock=some (wi.alloc (.cells #[.int .i64 (p:Int)] 3)).heap.size)→∃A' c',v'=.slice A' (m+1) c'∧EntB (w'.setCell ⟨xb,0,none⟩ v') wt.heap.size xb A' c' (unk (edges s) (toN F) (c.take (i+1)))∧Bk w' xb 74 [.slice A m cu,.slice none 0 0,.slice none 0 0]∧Below wt.heap.size wt w'):=fun v' w' h1 h2 h3=>by
                 rw[hm]at h1 h2 h3;obtain⟨A',c',q1,q2,q3⟩:=hEn.out.step h1 h2 h3;rw[hut,hm];refine⟨A',c',q1,q2,q3,?_⟩;exact((Kp.refl [] wi).alloc (.cells #[.int .i64 (p:Int)] 3)).to_below hBi.out (fun x hx=>by simp at hx) |>.trans ⟨h2.os,h2.tape,h2.output,h2.size,fun k hk=>h2.block k (Nat.lt_of_lt_of_le hk hbs.out) fun e=>by have:=(hEn.out.o.lt k e.symm).1;omega⟩
                replace hm:=Lib.hid hm;replace hut:=Lib.hid hut;clear hEi hEn
                go_wp2_with (at_builtin;refine Ci.wpList_append_new _ rfl _ _ 26 rfl wt.heap.size 3 i0 (.int .i64 0) 1 8 Tryz.underlying26 hi0.out hz0.out hz1.out hz2.out rfl (by decide) (.slice A m cu) m (intsL (unk (edges s) (toN F) (c.take i))) rfl hrow.out ⟨wi.heap.size,0,none⟩ 1 1 [.int .i64 (p:Int)] rfl rfl had.out (Ci.one_cell1 _ rfl) (by decide) (by have:=hul2.out;unfold maxLen;omega) (by have:=hul2.out;omega) hbs.out ?_;intro v' w' ho hg hn;obtain⟨A',c',hv',hE2,hx2,hB2⟩:=hst.out v' w' ho hg hn;replace hE2:=Lib.hid hE2;replace hB2:=Lib.hid hB2;have z0:=hx2.frozen 0;have z1:=hx2.cell (j:=0) rfl;have z9:=hx2.lt;clear ho hg hn hx2 x0 x9;subst hv')
                exact⟨⟨i+1,A',c',by omega,by go_num,hE2,((Kp.refl [xb] _).set _ (.inl (by simp))).to_below hB2.out (fun x hx=>by have:=hxl.out;simp at hx;omega)⟩,by simp only[intOf];omega⟩
            · obtain rfl:i=c.length:=by omega
              rw[List.take_length]at hEi;have hul:(unk (edges s) (toN F) c).length≤60:=Nat.le_trans unk_len hc60b.out;have hBz3:=Lib.hid (hBz2.out _ hBi.out);have hSy3:=Lib.hid (hSy.out.below hBi.out);obtain⟨u,hu⟩:∃u,u=unk (edges s) (toN F) c:=⟨_,rfl⟩;rw[←hu]at hEi hul hrs h81 hnil hmor hbig;replace hu:=Lib.hid hu;have x0:=hEi.out.x.cell (j:=0) rfl;have x9:=hEi.out.x.lt;have hrs2:Hid (Value.int .i64 ((R0:Int)+(u.length:Int))=.int .i64 ((sysT s.ps.length (edges s) (toN F) (t+1)).flatten.length:Nat)):=by rw[←hR1.out,hrs];go_num
              have hfl2:R0+u.length≤60:=by omega
              replace hrs:=Lib.hid hrs
              by_cases hu0:u=[]
              · subst hu0;have hEs2:Hid (Es.map Ent.u=sysN s.ps.length (edges s) (toN F) (t+1)):=by rw[hnil.out rfl];exact hEs.out
                have h82:=Lib.hid (h81.out (by simp));simp only[List.length_nil]at x0 hrs2;clear hnil hmor hbig h81 hEi;go_wp2;exact⟨⟨t+1,Es,Ay,cy,htl9.out,by go_num,hrs2.out,rfl,hEs2,hSy3,h82,hBz3⟩,by have:=htl9.out;simp only[intOf];omega⟩
              · have hu1:0<u.length:=by cases u with | nil=>exact absurd rfl hu0 | cons _ _=>simp
                have m2:((u.length:Int)==0)=false:=by rw[beq_eq_false_iff_ne];omega
                have hmo:=Lib.hid (hmor.out hu0);replace hu0:=Lib.hid hu0;clear hnil hmor;have hB9:Hid (Below w.heap.size w wi):=hB6.out.trans (hBz3.out.mono hB6.out.size)
                by_cases hu8:8<u.length
                · have m3:decide (8<(u.length:Int))=true:=decide_eq_true (by omega);have hmm9:=Lib.hid (hbig.out hu8);replace hu8:=Lib.hid hu8;clear hbig h81 hEi;go_wp2;rw[Exit.noGoto_ret];go_ret2;exact hMany.out _ _ hok.out hmm9.out rfl hB9.out
                · have m3:decide (8<(u.length:Int))=false:=decide_eq_false (by omega);have h82:=Lib.hid (h81.out (by omega));have hel:Es.length≤60:=by have h1:=congrArg List.length hEs.out;have h2:=sysN_len (n:=s.ps.length) (E:=edges s) (F:=toN F) (t:=t);rw[List.length_map]at h1;have:=htl9.out;omega
                  obtain⟨q,hq⟩:∃q,q=Es.length:=⟨_,rfl⟩;have hb2:Hid (Below wt.heap.size wt (wi.alloc (.cells #[.pointer (some ⟨xb,0,none⟩)] 71))):=hBi.out.alloc hBi.out.size _;have hrowP:Hid ((wi.alloc (.cells #[.pointer (some ⟨xb,0,none⟩)] 71)).ownsRow wz.heap.size 71 1 (.slice Ay q cy) q (Es.map Ent.pt)):=by rw[hq];exact own_below' hSy.out.row hb2.out
                  have hadP:Hid (∀j u,[Value.pointer (some ⟨xb,0,none⟩)][j]? = some u→(wi.alloc (.cells #[.pointer (some ⟨xb,0,none⟩)] 71)).cell? (Addr.add ⟨wi.heap.size,0,none⟩ j)=some u):=Ci.head_new wi _ 71;have hbsP:Hid (wz.heap.size≤(wi.alloc (.cells #[.pointer (some ⟨xb,0,none⟩)] 71)).heap.size):=Nat.le_trans hBt.out.size hb2.out.size
                  have hstP:Hid (∀v' w',w'.ownsRow wz.heap.size 71 1 v' (q+1) (Es.map Ent.pt++[.pointer (some ⟨xb,0,none⟩)])→(wi.alloc (.cells #[.pointer (some ⟨xb,0,none⟩)] 71)).grownBy w' (Value.slice Ay q cy).ownBlock→(v'.ownBlock=(Value.slice Ay q cy).ownBlock∨v'.ownBlock=some (wi.alloc (.cells #[.pointer (some ⟨xb,0,none⟩)] 71)).heap.size)→∃Ay' cy',v'=.slice Ay' (q+1) cy'∧SyM w' wz.heap.size (.slice Ay' (Es++[(⟨xb,A,cu,u⟩:Ent)]).length cy') (Es++[(⟨xb,A,cu,u⟩:Ent)])∧Below wz.heap.size wz w'):=fun v' w' h1 h2 h3=>by
                   obtain⟨Ay',cy',rfl⟩:=Ci.own_form h1;refine⟨Ay',cy',rfl,?_,?_⟩
                   · have hl:(Es++[(⟨xb,A,cu,u⟩:Ent)]).length=q+1:=by rw[List.length_append,hq];rfl
                     rw[hl];have hEP:=hEi.out.below ((Below.refl _ wi).alloc (Nat.le_refl _) (.cells #[.pointer (some ⟨xb,0,none⟩)] 71));rw[hq]at h1 h2 h3 ⊢;refine SyM.add (e:=⟨xb,A,cu,u⟩) hSy.out hBt.out.size hb2.out hEP.x hEP.inInt hxl.out (fun b o e=>hEP.blk b o e) ?_ h2 (h3.imp id fun e=>⟨_,e,Nat.le_refl _⟩);exact h1
                   · exact hBt.out.trans (hb2.out.mono hBt.out.size) |>.trans ⟨h2.os,h2.tape,h2.output,h2.size,fun k hk=>h2.block k (Nat.lt_of_lt_of_le hk hbsP.out) fun e=>by have:=(hrowP.out.lt k e.symm).1;omega⟩
                  have hEs2:Hid ((Es++[(⟨xb,A,cu,u⟩:Ent)]).map Ent.u=sysN s.ps.length (edges s) (toN F) (t+1)):=by rw[hmo.out,List.map_append,hEs.out];rfl
                  have hq1:Hid ((Es++[(⟨xb,A,cu,u⟩:Ent)]).length=q+1):=by rw[List.length_append,hq];rfl
                  have hel2:Hid (q≤60):=by rw[hq];exact hel
                  rw[←hq];replace hq:=Lib.hid hq;replace hel:=Lib.hid hel;clear hmo hbig h81 hEi hSy3
                  go_wp2_with (at_builtin;refine Ci.wpList_append_new _ rfl _ _ 70 rfl wz.heap.size 71 i1 (.pointer none) 1 8 Tryz.underlying70 hi1.out hy0.out hy1.out hy2.out rfl (by decide) (.slice Ay q cy) q (Es.map Ent.pt) rfl hrowP.out ⟨wi.heap.size,0,none⟩ 1 1 [.pointer (some ⟨xb,0,none⟩)] rfl rfl hadP.out (Ci.one_cell1 _ rfl) (by decide) (by have:=hel2.out;unfold maxLen;omega) (by have:=hel2.out;omega) hbsP.out ?_;intro v' w' ho hg hn;obtain⟨Ay',cy',hv',hSN,hBN⟩:=hstP.out v' w' ho hg hn;replace hSN:=Lib.hid hSN;replace hBN:=Lib.hid hBN;clear ho hg hn x0 x9;subst hv')
                  exact⟨⟨t+1,Es++[(⟨xb,A,cu,u⟩:Ent)],Ay',cy',htl9.out,by go_num,hrs2.out,by rw[hq1.out],hEs2,hSN,h82,hBN⟩,by have:=htl9.out;simp only[intOf];omega⟩
         · obtain rfl:t=(comps s.ps.length (edges s)).length:=by omega
           have hB9:Hid (Below w.heap.size w wt):=hB6.out.trans (hBt.out.mono hB6.out.size);have hEs9:Hid (Es.map Ent.u=systs s.ps.length (edges s) (toN F)):=hEs.out.trans sysN_all;obtain⟨R0,hR0⟩:∃x,x=(sysT s.ps.length (edges s) (toN F) (comps s.ps.length (edges s)).length).flatten.length:=⟨_,rfl⟩;rw[←hR0];have hfl0:R0≤60:=by have h1:=sysT_flat (n:=s.ps.length) (E:=edges s) (F:=toN F) (t:=(comps s.ps.length (edges s)).length);have h2:=syst_len (F:=toN F) (caps_of hsd.out);rw[edges_cap]at h2;omega
           by_cases h16:16<R0
           · have m3:decide (16<(R0:Int))=true:=decide_eq_true (by omega);have hmm9:=Lib.hid (sum_many (n:=s.ps.length) (E:=edges s) (F:=toN F) (by rw[←hR0];exact h16));replace h16:=Lib.hid h16;replace hR0:=Lib.hid hR0;go_wp2;rw[Exit.noGoto_ret];go_ret2;exact hMany.out _ _ hok.out hmm9.out rfl hB9.out
           · have m3:decide (16<(R0:Int))=false:=decide_eq_false (by omega);have hfew:=Lib.hid (sum_few (n:=s.ps.length) (E:=edges s) (F:=toN F) (by rw[←hR0];omega) h8.out);have hs16:(systs s.ps.length (edges s) (toN F)).flatten.length≤16:=by unfold systs;rw[flat_filter,←sysT_all,←hR0];omega
             replace hs16:=Lib.hid hs16;have hel9:Es.length≤60:=by have h1:=congrArg List.length hEs.out;have h2:=sysN_len (n:=s.ps.length) (E:=edges s) (F:=toN F) (t:=(comps s.ps.length (edges s)).length);rw[List.length_map]at h1;omega
             replace h16:=Lib.hid h16;replace hR0:=Lib.hid hR0
             go_wp2_with fail
             have hCaps:=Lib.hid (caps_of hsd.out);have hRd0:=systs_ready (F:=toN F) (caps_of hsd.out);rw[edges_cap,←hEs9.out]at hRd0;have hRd:=Lib.hid hRd0;clear hRd0;have hs16b:(Es.map Ent.u).flatten.length≤16:=by rw[hEs9.out];exact hs16.out
             replace hs16b:=Lib.hid hs16b;have hV9:=hV6.out.below hBt.out;have hFt:F.length=(toN F).length:=by simp[toN]
             have hV9b:VMC wt vb mb s.ps.length (runAt (capL s.cap) (toN F) (Es.map Ent.u) 0) (F.length+((Es.map Ent.u).take 0).flatten.length):=by have h:=hV9.congr (val':=runAt (capL s.cap) (toN F) (Es.map Ent.u) 0) (fun p _=>by rw[←iniV_all (L:=capL s.cap) (us:=(Es.map Ent.u)),hFt]);simpa using h
             replace hV9b:=Lib.hid hV9b;clear hV9;replace hFt:=Lib.hid hFt;have hX9:=Lib.hid (hX6.out.below hBt.out);have hK9:Hid (Kp (mb::(Es.take 0).map Ent.x) wt wt):=Kp.refl _ _
             go_loopw [123] (fun ix wr=>∃(k:Nat),k≤Es.length∧ix=.int .i64 (k:Int)∧Hid (Kp (mb::(Es.take k).map Ent.x) wt wr)∧Hid (VMC wr vb mb s.ps.length (runAt (capL s.cap) (toN F) (Es.map Ent.u) k) (F.length+((Es.map Ent.u).take k).flatten.length))) (fun ix _=>Es.length-(intOf ix).toNat)
             case atStart=>exact⟨0,Nat.zero_le _,rfl,hK9,hV9b⟩
             case round =>
              clear hK9 hV9b;obtain⟨k,hk,rfl,hKk,hVk⟩:=hrel;obtain⟨wr4,rfl⟩:∃z,z=wr:=⟨_,rfl⟩
              by_cases hkl:k<Es.length
              · obtain ⟨e,he⟩:∃e,e=Es[k]:=⟨_,rfl⟩;have hmem:e∈Es:=by rw[he];exact List.getElem_mem hkl
                obtain⟨hex,hei,heB⟩:=hSy.out.ent e hmem;have hnt:=nd_take hSy.out.nd hkl;rw[←he]at hnt;have huk:(Es.map Ent.u)[k]'(by rw[List.length_map];exact hkl)=e.u:=by rw[List.getElem_map,←he]
                have hus:=mem_systs hin.out (u:=e.u) (by rw[←hEs9.out];exact List.mem_map_of_mem hmem);have hue8:=h8.out _ hus.2;have hnx:=runAt_next hRd.out (k:=k) (by rw[List.length_map];exact hkl);rw[huk]at hnx;obtain⟨D,hD,hinv⟩:=runAt_inv hCaps.out hRd.out hs16b.out k;have hvals:=hinv.vals hD;have hfk:=flat_take (us:=(Es.map Ent.u)) (k:=k) (by rw[List.length_map];exact hkl);rw[huk]at hfk;have hsb:=hs16b.out;have hne:e.x≠mb∧e.x≠vb:=by have:=hvl.out;omega
                have hnin:e.x∉mb::(Es.take k).map Ent.x:=fun h=>(List.mem_cons.1 h).elim hne.1 hnt;have hbw:Hid (Below w.heap.size w wt):=hB9;have hxsB:Hid (∀x,x∈mb::(Es.take k).map Ent.x→w4.heap.size≤x):=fun x hx=>(List.mem_cons.1 hx).elim (fun h=>by rw[h];exact Nat.le_of_eq hlt5.out.1.symm) (fun h=>by obtain⟨e2,he2,rfl⟩:=List.mem_map.1 h;have h1:=(hSy.out.ent e2 (List.mem_of_mem_take he2)).2.2;have h2:=hBk.out.size;omega);have hBr:Hid (Below w.heap.size w wr4):=hKk.out.to_below hB9.out (fun x hx=>by have h1:=hxsB.out x hx;have h2:=hB4.out.size;omega);have hxr:Hid (Bk wr4 e.x 74 [.slice e.A e.u.length e.c,.slice none 0 0,.slice none 0 0]):=hex.kp hKk.out hnin;have hwe:w.heap.size≤e.x:=by have h1:=hB9.out.size;have h2:=hB6.out.size;omega
                have hub:Hid (∀b o,e.A=some ⟨b,o,none⟩→b∉mb::(Es.take k).map Ent.x∧b≠e.x∧b≠mb):=fun b o h=>by
                 obtain⟨h1,h2,h3⟩:=hSy.out.blk e hmem b o h;have hb:b≠mb:=by have:=hvl.out.1;omega
                 refine⟨fun hm=>(List.mem_cons.1 hm).elim hb fun h=>?_,h3 e hmem,hb⟩;obtain⟨e2,he2,rfl⟩:=List.mem_map.1 h;exact h3 e2 (List.mem_of_mem_take he2) rfl
                have hir:Hid (InInt wr4 e.A (e.u.map fun(q:Nat)=>(q:Int))):=inInt_kp hei hKk.out (fun b o h=>(hub.out b o h).1);have hXr:Hid (Bk wr4 w.heap.size 25 (SC s Ap Ac Av cp cc cv)):=hX9.out.kp hKk.out (fun h=>(List.mem_cons.1 h).elim (fun h=>by have h1:=hlt5.out.1;have h2:=hwl4.out;omega) (fun h=>by obtain⟨e2,he2,q⟩:=List.mem_map.1 h;have h1:=(hSy.out.ent e2 (List.mem_of_mem_take he2)).2.2;have h2:=hwl4.out;have h3:=hBk.out.size;omega));obtain⟨val,hval⟩:∃v,v=runAt (capL s.cap) (toN F) (Es.map Ent.u) k:=⟨_,rfl⟩;rw[←hval]at hVk hinv hvals;obtain⟨C0,hC0⟩:∃c,c=F.length+((Es.map Ent.u).take k).flatten.length:=⟨_,rfl⟩;rw[←hC0]at hVk;have hC1:C0+e.u.length≤100000:=by omega
                have kB:=build_any (D:=D) s Ap Ac Av e.A cp cc cv e.c e.u val e.x vb mb wr4 hsd.out hc3 hue8 hnx.nodup hus.1 hvals hxr.out (fun W h=>hE.out.below (h.to_below hBr.out (fun x hx=>by simp at hx;omega))) (fun W h=>(hsW.out W (h.to_below hBr.out (fun x hx=>by simp at hx;omega))).cap) (fun W h=>inInt_kp hir.out h (fun b o q=>by have:=(hub.out b o q).2.1;simpa using this)) (fun W h=>(hVk.out.kp h (by have:=hne.2;simp;omega) (by have:=hne.1;simp;omega)).vm (by omega));obtain⟨gy,cy2,hgv,hg1,hg2,_,hgc⟩:=Nt.own_form (own_kpS hSy.out.row hKk.out (fun b q hm=>(List.mem_cons.1 hm).elim (fun h=>by have h1:=(hSy.out.row.lt b q).1;have h2:=hvl.out.1;omega) (fun h=>by obtain⟨e2,he2,h3⟩:=List.mem_map.1 h;exact(hSy.out.rb b q e2 (List.mem_of_mem_take he2)).1 h3.symm))) (by omega:0<Es.length);injection hgv with q1 _ q2;subst q1;subst q2;have e1:wr4.cell? ⟨gy,k,none⟩=some (.pointer (some ⟨e.x,0,none⟩)):=hgc k _ (by rw[List.getElem?_map,List.getElem?_eq_getElem hkl,←he];rfl);have j0:(0:Int)≤(k:Int):=by omega
                have j1:(k:Int)<(Es.length:Int):=by omega
                have hlen9:Hid (((Es.map Ent.u).take k).flatten.length+e.u.length≤16):=by unfold Hid;omega
                have hkl9:=Lib.hid hkl;replace kB:=Lib.hid kB;replace hinv:=Lib.hid hinv;replace hnx:=Lib.hid hnx;replace hvals:=Lib.hid hvals;replace hus:=Lib.hid hus;replace he:=Lib.hid he;replace huk:=Lib.hid huk;replace hval:=Lib.hid hval;replace hC0:=Lib.hid hC0;replace hmem:=Lib.hid hmem;replace hex:=Lib.hid hex;replace hei:=Lib.hid hei;replace hnt:=Lib.hid hnt;replace hnin:=Lib.hid hnin;replace hne:=Lib.hid hne;replace hD:=Lib.hid hD;clear hgc;have u0:=hXr.out.cell (j:=0) rfl;have u1:=hXr.out.cell (j:=1) rfl;have u2:=hXr.out.cell (j:=2) rfl;have u9:=hXr.out.lt
                go_wp2_with fail
                refine kB.out.mono ?_;rintro ex W5 ⟨rfl,w3,hk3,hbd⟩;obtain⟨Aa,Ab,ca,cb,la,hks,hxs,hla,hsys,hrows⟩:=hbd.slv hCaps.out hvals.out hue8;have hK5:Hid (Kp [e.x] wr4 W5):=kp_trans hk3 hks (fun y hy=>.inl hy);replace hxs:=Lib.hid hxs;clear hk3 hks hbd kB u0 u1 u2 u9 e1;have hB5r:Hid (Below w.heap.size w W5):=hK5.out.to_below hBr.out (fun x hx=>by simp at hx;omega);have hV5:=Lib.hid (hVk.out.kp hK5.out (by have:=hne.out.2;simp;omega) (by have:=hne.out.1;simp;omega));have hI5:=Lib.hid (inInt_kp hir.out hK5.out (fun b o q=>by have:=(hub.out b o q).2.1;simpa using this));have kV:Hid (∀W,Below W5.heap.size W5 W→Calls Tryz.prog 49 #[.slice Aa e.u.length ca,.slice Ab e.u.length cb] W fun e1 w1=>(∃p c,e1=.returned (.tuple #[.slice p e.u.length c,.int .i64 0])∧InRow w1 p (outL e.u.length fun i=>nextV SQ (capL s.cap) e.u val (e.u.getD i 0)))∧Below W.heap.size W w1):=fun W h=>slv_any hCaps.out hinv.out hnx.out hlen9.out hue8 (hE.out.below (hB5r.out.trans (h.mono hB5r.out.size))) hla (hsys.below h) hrows;have hD5:Hid (Below W5.heap.size W5 W5.drew):=(Below.refl _ _).drew;have hS5:Hid (∀W,Below W5.heap.size W5 W→W.cell? ⟨e.x,1,none⟩=some (.slice Aa e.u.length ca)∧W.cell? ⟨e.x,2,none⟩=some (.slice Ab e.u.length cb)):=fun W h=>⟨(hxs.out.below h).cell (j:=1) rfl,(hxs.out.below h).cell (j:=2) rfl⟩;clear hsys hrows hxr hir hVk;have x1:=hxs.out.cell (j:=1) rfl;have x2:=hxs.out.cell (j:=2) rfl;have x9:=hxs.out.lt
                go_wp2_with fail
                go_region_held3 (fun W=>W.cell? ⟨e.x,1,none⟩=some (.slice Aa e.u.length ca)∧W.cell? ⟨e.x,2,none⟩=some (.slice Ab e.u.length cb)) (first | (with_reducible exact hS5.out _ hD5.out) | (with_reducible exact hS5.out _ hb8.out) | go_keep) (first | (go_at_call 49;refine(kV.out _ hD5.out).mono ?_;rintro ex w8 ⟨⟨pS,cS,rfl,hsol⟩,hb⟩;have hb8:=Lib.hid (hD5.out.trans (hb.mono hD5.out.size));replace hsol:=Lib.hid hsol;clear hb))
                have hV8:Hid (VMC w8 vb mb s.ps.length (midV (capL s.cap) e.u val 0) (C0+0)):=by rw[mid_zero];exact hV5.out.below hb8.out
                have hVs:Hid (∀b o x,w8.cell? ⟨b,o,none⟩=some x→b≠mb):=fun b o x h=>hV8.out.off h;have hx8:=Lib.hid (hxs.out.below hb8.out);have hI8:=Lib.hid (hI5.out.below hb8.out);have hB8r:Hid (Below w.heap.size w w8):=hB5r.out.trans (hb8.out.mono hB5r.out.size);have hK8:Hid (Kp [e.x] wr4 w8):=hK5.out.below hb8.out;have hx59:=Lib.hid hxs.out.lt;clear hV5 hI5 hxs hS5 hD5 kV hK5 hB5r x1 x2 x9;have hK0:Hid (Kp [mb] w8 w8):=Kp.refl _ _
                go_wp2_with fail
                go_loopw [145] (fun jx wr=>∃(i:Nat),i≤e.u.length∧jx=.int .i64 (i:Int)∧Hid (Kp [mb] w8 wr)∧Hid (VMC wr vb mb s.ps.length (midV (capL s.cap) e.u val i) (C0+i))) (fun jx _=>e.u.length-(intOf jx).toNat)
                case atStart=>exact⟨0,Nat.zero_le _,rfl,hK0,hV8⟩
                case round =>
                 clear hK0 hV8;obtain⟨i,hi,rfl,hKi,hVi⟩:=hrel;obtain⟨wi5,rfl⟩:∃z,z=wr:=⟨_,rfl⟩
                 by_cases hil:i<e.u.length
                 · obtain⟨sb,so,hSe,hsl,hsc⟩:=hsol.out (by rw[outL_length];omega);subst hSe;obtain⟨t1,t2,t3⟩:=hsc i (by rw[outL_length];exact hil);rw[outL_get]at t1 t2 t3;rw[getD_get hil]at t1 t2 t3;have hsm:sb≠mb:=hVs.out sb _ _ t1;have t1:=(World.cell?_of_block (a:=⟨sb,so+i*3,none⟩) (hKi.out.block sb hsl (by simpa using hsm))).trans t1;have t2:=(World.cell?_of_block (a:=⟨sb,so+i*3+1,none⟩) (hKi.out.block sb hsl (by simpa using hsm))).trans t2;have t3:=(World.cell?_of_block (a:=⟨sb,so+i*3+2,none⟩) (hKi.out.block sb hsl (by simpa using hsm))).trans t3;have t9:sb<wi5.heap.size:=Nat.lt_of_lt_of_le hsl hKi.out.size;obtain⟨ub,uo,hUe,hub9,huc⟩:=(inInt_kp hI8.out hKi.out (fun b o q=>by have:=(hub.out b o q).2.2;simpa using this)) (by rw[List.length_map];omega);have hum:ub≠mb:=(hub.out ub uo hUe).2.2;have e1:=huc i (by rw[List.length_map];exact hil);rw[List.getElem_map]at e1;have hpn:=hus.out.1 _ (List.getElem_mem hil);have hms:=mid_succ (L:=capL s.cap) (val:=val) hil;obtain⟨p,hp⟩:∃p,p=e.u[i]:=⟨_,rfl⟩;rw[←hp]at e1 hpn hms t1 t2 t3;replace hp:=Lib.hid hp;clear huc hsc;replace hms:=Lib.hid hms;replace hUe:=Lib.hid hUe;replace hsm:=Lib.hid hsm;replace hum:=Lib.hid hum;replace e1:=Lib.hid e1;replace hub9:=Lib.hid hub9;have j0:(0:Int)≤(i:Int):=by omega
                   have j1:(i:Int)<(e.u.length:Int):=by omega
                   obtain⟨q,hq⟩:∃q,q=nextV SQ (capL s.cap) e.u val p:=⟨_,rfl⟩;rw[←hq]at t1 t2 t3 hms;replace hq:=Lib.hid hq
                   go_wp2_with fail
                   have hxi:=hx8.out.kp hKi.out (by have:=hne.out.1;simpa using this);rw[hUe.out]at hxi;refine ef40 vb mb s.ps.length (C0+i) p e.x ub uo e.u.length e.c i wi5.heap.size q (midV (capL s.cap) e.u val i) (wi5.alloc (.cells #[.bool (rq (q)).1,.string (rq (q)).2.1,.string (rq (q)).2.2] 37)) (hVi.out.below ((Below.refl _ _).alloc (Nat.le_refl _) _)) (by omega) (by omega) hil ((hxi.alloc _).cell (j:=0) rfl) ((hxi.alloc _).lt) ((World.cell?_of_block (a:=⟨ub,uo+i,none⟩) (heap_alloc_old wi5 _ hub9.out)).trans e1.out) (Nat.lt_trans hub9.out (by simp)) (Bk.new wi5 _ _) hne.out.1 hum.out (by have:=hVi.out.lt;omega) ?_;intro _ _ _ _ _ _ _ _ _ we hVe hKe;have hKf:Hid (Kp [mb] w8 we):=kp_trans (hKi.out.alloc _) hKe.out (fun y hy=>.inl hy);have hVf:Hid (VMC we vb mb s.ps.length (midV (capL s.cap) e.u val (i+1)) (C0+(i+1))):=hVe.out.congr fun x _=>(hms.out x).symm;clear hVe hKe hKi hVi t1 t2 t3 t9 hxi;go_wp2;exact⟨⟨i+1,by omega,by go_num,hKf,hVf⟩,by simp only[intOf];omega⟩
                 · obtain rfl:i=e.u.length:=by omega
                   have hKn:Hid (Kp (mb::(Es.take (k+1)).map Ent.x) wt wi5):=by
                    have hm:∀y,y∈(Es.take (k+1)).map Ent.x↔y∈(Es.take k).map Ent.x∨y=e.x:=fun y=>by rw[List.take_succ_eq_append_getElem hkl9.out,←he.out,List.map_append,List.mem_append];simp
                    have h1:Kp (mb::(Es.take (k+1)).map Ent.x) wt wr4:=⟨hKk.out.os,hKk.out.tape,hKk.out.output,hKk.out.size,fun b hb hx=>hKk.out.block b hb fun h=>hx ((List.mem_cons.1 h).elim (fun h=>List.mem_cons.2 (.inl h)) (fun h=>List.mem_cons.2 (.inr ((hm b).2 (.inl h)))))⟩;exact kp_trans (kp_trans h1 hK8.out (fun y hy=>.inl (List.mem_cons.2 (.inr ((hm y).2 (.inr (by simpa using hy))))))) hKi.out (fun y hy=>.inl (List.mem_cons.2 (.inl (by simpa using hy))))
                   have hVn:Hid (VMC wi5 vb mb s.ps.length (runAt (capL s.cap) (toN F) (Es.map Ent.u) (k+1)) (F.length+((Es.map Ent.u).take (k+1)).flatten.length)):=by
                    have h:=hVi.out;rw[mid_all]at h;have e1:runAt (capL s.cap) (toN F) (Es.map Ent.u) (k+1)=nextV SQ (capL s.cap) e.u val:=by rw[runAt_succ (by rw[List.length_map];exact hkl9.out),huk.out,←hval.out]
                    have e2:F.length+((Es.map Ent.u).take (k+1)).flatten.length=C0+e.u.length:=by rw[hC0.out,List.take_succ_eq_append_getElem (by rw[List.length_map];exact hkl9.out:k<(Es.map Ent.u).length),huk.out,List.flatten_append,List.length_append,List.flatten_singleton,Nat.add_assoc]
                    rw[e1,e2];exact h
                   have hk1:Hid (k+1≤Es.length):=hkl9.out;clear hKi hVi;go_wp2;exact⟨⟨k+1,hk1.out,by go_num,hKn,hVn⟩,by have:=hk1.out;simp only[intOf];omega⟩
              · obtain rfl:k=Es.length:=by omega
                have hlim:((Es.map Ent.u).take Es.length).flatten.length≤16:=by have h:=congrArg (fun l=>(List.flatten l).length) (List.take_append_drop Es.length (Es.map Ent.u));simp only[List.flatten_append,List.length_append]at h;have:=hs16b.out;omega
                have hKe:runAt (capL s.cap) (toN F) (Es.map Ent.u) Es.length=effV SQ s.ps.length (capL s.cap) (toN F):=by unfold runAt effV;rw[edges_cap,←hEs9.out,List.take_of_length_le (by rw[List.length_map];exact Nat.le_refl _)]
                have hV6:=hVk.out.vm (by omega);rw[hKe]at hV6;replace hV6:=Lib.hid hV6;replace hKe:=Lib.hid hKe;replace hlim:=Lib.hid hlim;have hxsB:Hid (∀x,x∈mb::(Es.take Es.length).map Ent.x→w4.heap.size≤x):=fun x hx=>(List.mem_cons.1 hx).elim (fun h=>by rw[h];exact Nat.le_of_eq hlt5.out.1.symm) (fun h=>by obtain⟨e2,he2,rfl⟩:=List.mem_map.1 h;have h1:=(hSy.out.ent e2 (List.mem_of_mem_take he2)).2.2;have h2:=hBk.out.size;omega);have hBr:Hid (Below w.heap.size w wr4):=hKk.out.to_below hB9.out (fun x hx=>by have h1:=hxsB.out x hx;have h2:=hB4.out.size;omega);have hXr:Hid (Bk wr4 w.heap.size 25 (SC s Ap Ac Av cp cc cv)):=hX9.out.kp hKk.out (fun h=>by have h1:=hxsB.out _ h;have h2:=hwl4.out;omega);obtain⟨ev,hev⟩:∃ev,ev=effV SQ s.ps.length (capL s.cap) (toN F):=⟨_,rfl⟩;rw[←hev]at hV6 hGood;replace hev:=Lib.hid hev;have hmk:=run_make_q 29 Tryz.underlying29 s.ps.length (by omega);have kva:Hid (∀W (p:Nat),p<s.ps.length→Below wr4.heap.size wr4 W→Calls Tryz.prog 47 #[.int .i64 (p:Int),.pointer (some ⟨vb,0,none⟩)] W fun e w'=>e=.returned (.agg #[.bool (rq (ev p)).1,.string (rq (ev p)).2.1,.string (rq (ev p)).2.2])∧Below W.heap.size W w'):=fun W p hp h=>shval_any s.ps.length ev vb mb p hp (by omega) W (hE.out.below (hBr.out.trans (h.mono hBr.out.size))) (hV6.out.below h);obtain⟨ob,hob⟩:∃x,x=wr4.heap.size:=⟨_,rfl⟩;obtain⟨w10,hw10⟩:∃W,W=(wr4.alloc (.cells (rowL s.ps.length fun _=>zraw).toArray 37)):=⟨_,rfl⟩;have hB10:Hid (Below wr4.heap.size wr4 w10):=by rw[hw10];exact(Below.refl _ wr4).alloc (Nat.le_refl _) _
                have hR10:Hid (RowB w10 ob s.ps.length fun j=>if j<0 then rq (ev j) else zraw):=by rw[hw10,hob];refine RowB.congr (r:=fun _=>zraw) (heap_alloc_new wr4 _) fun j _=>?_;rw[if_neg (Nat.not_lt_zero _)]
                have u0:=hXr.out.cell (j:=0) rfl;have u1:=hXr.out.cell (j:=1) rfl;have u2:=hXr.out.cell (j:=2) rfl;have u9:=hXr.out.lt
                go_wp2_with fail
                (try rw[←hw10])
                (try rw[←hob])
                replace hw10:=Lib.hid hw10;replace hob:=Lib.hid hob;clear hmk u0 u1 u2 u9
                go_loopw [167] (fun ix wr=>∃(k:Nat),k≤s.ps.length∧ix=.int .i64 (k:Int)∧Hid (Below wr4.heap.size wr4 wr)∧Hid (RowB wr ob s.ps.length fun j=>if j<k then rq (ev j) else zraw)) (fun ix _=>s.ps.length-(intOf ix).toNat)
                case atStart=>exact⟨0,Nat.zero_le _,rfl,hB10,hR10⟩
                case round =>
                 clear hB10 hR10;obtain⟨k,hk,rfl,hBz,hRz⟩:=hrel;obtain⟨wz6,rfl⟩:∃z,z=wr:=⟨_,rfl⟩
                 by_cases hkm:k<s.ps.length
                 · have k0:=Lib.hid (kva.out wz6 k hkm hBz.out);have q0:(0:Int)≤(k:Int):=by omega
                   have q1:(k:Int)<(s.ps.length:Int):=by omega
                   go_wp2_with fail
                   refine k0.out.mono ?_;rintro e w6 ⟨rfl,hb⟩;have hB6z:Hid (Below wr4.heap.size wr4 w6):=hBz.out.trans (hb.mono hBz.out.size);have hR6:Hid (RowB w6 ob s.ps.length fun j=>if j<k then rq (ev j) else zraw):=hRz.out.below hb hRz.out.lt;clear hb k0 hBz hRz;obtain⟨r1,r2,r3⟩:=hR6.out.cell hkm;have f1:=hR6.out.frozen (k*3);have f2:=hR6.out.frozen (k*3+1);have f3:=hR6.out.frozen (k*3+2);have r9:=hR6.out.lt;have hrw:Hid (wr4.heap.size≤ob):=Nat.le_of_eq hob.out.symm;have hB7:Hid (Below wr4.heap.size wr4 (((w6.setCell ⟨ob,k*3,none⟩ (.bool (rq (ev k)).1)).setCell ⟨ob,k*3+1,none⟩ (.string (rq (ev k)).2.1)).setCell ⟨ob,k*3+2,none⟩ (.string (rq (ev k)).2.2))):=((hB6z.out.setCell (p:=⟨ob,k*3,none⟩) hrw.out _).setCell (p:=⟨ob,k*3+1,none⟩) hrw.out _).setCell (p:=⟨ob,k*3+2,none⟩) hrw.out _;have hR7:Hid (RowB (((w6.setCell ⟨ob,k*3,none⟩ (.bool (rq (ev k)).1)).setCell ⟨ob,k*3+1,none⟩ (.string (rq (ev k)).2.1)).setCell ⟨ob,k*3+2,none⟩ (.string (rq (ev k)).2.2)) ob s.ps.length fun j=>if j<k+1 then rq (ev j) else zraw):=(hR6.out.set hkm (rq (ev k))).congr fun j _=>by by_cases c:j=k;(· rw[if_pos c,if_pos (by omega),c]);(· rw[if_neg c];by_cases d:j<k;(· rw[if_pos d,if_pos (by omega)]);(· rw[if_neg d,if_neg (by omega)]))
                   generalize (if k<k then rq (ev k) else zraw)=rz at r1 r2 r3;go_wp2;exact⟨⟨k+1,by omega,by go_num,hB7,hR7⟩,by simp only[intOf];omega⟩
                 · obtain rfl:k=s.ps.length:=by omega
                   have hR8:Hid (RowB wz6 ob s.ps.length fun j=>rq (ev j)):=hRz.out.congr fun j hj=>by rw[if_pos hj]
                   have hBf:Hid (Below w.heap.size w wz6):=hBr.out.trans (hBz.out.mono hBr.out.size);have hrw:Hid (w.heap.size≤ob):=by rw[hob.out];exact hBr.out.size
                   clear hRz hBz;go_wp2;rw[Exit.noGoto_ret];go_ret2;exact hGood.out _ _ ob hok.out hfew.out rfl hrw.out hR8.out hBf.out
end Sh
end
section
namespace Sh
open Nt Ci
def hL1:List Lp:=[(0,3,1/2),(1,0,1/2)]
def hL2:List Lp:=[(0,1,1/2),(0,3,1/2),(1,0,1/2)]
def hL3:List Lp:=[(0,1,1),(1,0,1)]
def hL4:List Lp:=[(0,3,1),(2,0,1/2),(2,1,1/2)]
theorem head1 {e:Nat→Rat} (h:Eff 4 hL1 [3] e):e 0=6/12∧e 1=3/12∧e 2=0∧e 3=1:=by
 have h3:=h.listed 3 (by simp);have h0:=h.sum 0 (by omega) (by simp);have h1:=h.sum 1 (by omega) (by simp);have h2:=h.sum 2 (by omega) (by simp);simp[hL1,lsum]at h0 h1 h2;refine⟨?_,?_,?_,h3⟩<;>grind
theorem head2 {e:Nat→Rat} (h:Eff 4 hL2 [3] e):e 0=8/12∧e 1=4/12∧e 2=0∧e 3=1:=by
 have h3:=h.listed 3 (by simp);have h0:=h.sum 0 (by omega) (by simp);have h1:=h.sum 1 (by omega) (by simp);have h2:=h.sum 2 (by omega) (by simp);simp[hL2,lsum]at h0 h1 h2;refine⟨?_,?_,?_,h3⟩<;>grind
theorem head3 (hL:Caps 4 hL3) {e:Nat→Rat} (h:Eff 4 hL3 [3] e):e 0=0∧e 1=0∧e 2=0∧e 3=1:=by
 have h3:=h.listed 3 (by simp);have h2:=h.sum 2 (by omega) (by simp);simp[hL3,lsum]at h2
 have hl:=h.least hL (v:=fun p=>if p=3 then 1 else 0) (fun p _=>by split<;>decide) (fun p _ hp=>by simp at hp;simp[hp]) (fun p hp hF=>by
  have h4:p=0∨p=1∨p=2∨p=3:=by omega
  rcases h4 with rfl | rfl | rfl | rfl
  · simp[hL3,lsum];grind
  · simp[hL3,lsum];grind
  · simp[hL3,lsum];grind
  · simp at hF)
 have l0:=hl 0 (by omega);have l1:=hl 1 (by omega);simp at l0 l1;have g0:=(h.rng 0).1;have g1:=(h.rng 1).1;refine⟨?_,?_,?_,h3⟩<;>grind
theorem head4 {e:Nat→Rat} (h:Eff 4 hL4 [3] e):e 0=12/12∧e 1=0∧e 2=6/12∧e 3=1:=by
 have h3:=h.listed 3 (by simp);have h0:=h.sum 0 (by omega) (by simp);have h1:=h.sum 1 (by omega) (by simp);have h2:=h.sum 2 (by omega) (by simp);simp[hL4,lsum]at h0 h1 h2;refine⟨?_,?_,?_,h3⟩<;>grind
end Sh
end
section
open Go.RowKit Go.Shelf
namespace Sh
open Nt Ci
noncomputable def ev (s:SR) (F:List Int):Nat→Rat:=effV SQ s.ps.length (capL s.cap) (toN F)
theorem ev_vals {s:SR} {F:List Int} (hsd:soundB s=true) (h:tooMany s.ps.length (edges s) (toN F)=false):∃D,Vals (ev s F) D:=by
 rw[←edges_cap]at h;obtain⟨D,hD,hi⟩:=effV_inv (S:=SQ) (F:=toN F) (caps_of hsd) SQ_fit (tooMany_no h).2;exact⟨D,hi.vals hD⟩
theorem ev_eff {s:SR} {F:List Int} (hsd:soundB s=true) (h:tooMany s.ps.length (edges s) (toN F)=false):Eff s.ps.length (capL s.cap) (toN F) (ev s F):=by
 rw[←edges_cap]at h;exact effV_eff (caps_of hsd) SQ_fit (tooMany_no h).2
theorem few_many {s:SR} (F:List Int) (hsd:soundB s=true) (hn:s.ps.length≤8):tooMany s.ps.length (edges s) (toN F)=false:=by
 rw[←edges_cap];exact few_fits (caps_of hsd) hn
theorem lsum_short {n D:Nat} {L:List Lp} {val:Nat→Rat} (hL:Caps n L) (h:Vals val D) (p k:Nat):ShortQ (lsum p val (L.take k)) :=
 fit_short (right_fit (hL.take k) p h.dp h.rng h.whole) (pow17' h.dle)
theorem eff7_any (s:SR) (Ap Ac Av Af:Option Addr) (cp cc cv cf:Nat) (F:List Int) (w:World) (hE:Env w) (hs:StIn w s Ap Ac Av) (hn:s.ps.length≤8) (hc3:s.cap.length≤300) (hF:InInt w Af F) (hFl:F.length≤140737488355328) :
 Calls Tryz.prog 17 #[.agg #[.slice Ap s.ps.length cp,.slice Ac s.cap.length cc,.slice Av s.vot.length cv],.slice Af F.length cf] w fun e w' =>
  (if soundB s=true∧listB s.ps.length F=true then ∃b,e=.returned (.tuple #[.slice (some ⟨b,0,none⟩) s.ps.length s.ps.length,.int .i64 0])∧w.heap.size≤b∧RowB w' b s.ps.length fun p=>rq (ev s F p)
   else e=.returned (.tuple #[.slice none 0 0,.int .i64 1]))∧Below w.heap.size w w' :=
 (eff_any s Ap Ac Av Af cp cc cv cf F w hE hs hc3 hF hFl).mono fun e w' h=>⟨by
   by_cases hgd:soundB s=true∧listB s.ps.length F=true
   · rw[if_pos hgd];have h1:=h.1;rw[if_pos hgd,if_neg (by rw[few_many F hgd.1 hn];decide)]at h1;exact h1
   · rw[if_neg hgd];have h1:=h.1;rw[if_neg hgd]at h1;exact h1,h.2⟩
def abcp:List ByteArray:=[⟨#[97]⟩,⟨#[98]⟩,⟨#[99]⟩,⟨#[112]⟩]
def sH (l:List Lk):SR:=⟨abcp,l,[]⟩
theorem inStrB {W:World} {b:Nat} {l:List ByteArray} (h:Bk W b 9 (l.map .string)):InStr W (some ⟨b,0,none⟩) l:=fun _=>⟨b,0,rfl,h.lt,fun j hj=>by
 rw[Nat.zero_add];exact h.cell (by simp[hj])⟩
theorem inIntB {W:World} {b:Nat} {l:List Int} (h:Bk W b 3 (l.map (.int .i64))):InInt W (some ⟨b,0,none⟩) l:=fun _=>⟨b,0,rfl,h.lt,fun j hj=>by
 rw[Nat.zero_add];exact h.cell (by simp[hj])⟩
theorem inRow4 {W:World} {b:Nat} {q0 q1 q2 q3:Rat} (h:Bk W b 37 [.bool (rq (q0)).1,.string (rq (q0)).2.1,.string (rq (q0)).2.2,.bool (rq (q1)).1,.string (rq (q1)).2.1,.string (rq (q1)).2.2,.bool (rq (q2)).1,.string (rq (q2)).2.1,.string (rq (q2)).2.2,.bool (rq (q3)).1,.string (rq (q3)).2.1,.string (rq (q3)).2.2]):InRow W (some ⟨b,0,none⟩) [rq q0,rq q1,rq q2,rq q3]:=fun _=>⟨b,0,rfl,h.lt,fun j hj=>by
 match j,hj with
 | 0,_=>exact⟨h.cell (j:=0) rfl,h.cell (j:=1) rfl,h.cell (j:=2) rfl⟩
 | 1,_=>exact⟨h.cell (j:=3) rfl,h.cell (j:=4) rfl,h.cell (j:=5) rfl⟩
 | 2,_=>exact⟨h.cell (j:=6) rfl,h.cell (j:=7) rfl,h.cell (j:=8) rfl⟩
 | 3,_=>exact⟨h.cell (j:=9) rfl,h.cell (j:=10) rfl,h.cell (j:=11) rfl⟩
 | j+4,hj=>exact absurd hj (by simp)⟩
theorem shares_any (l:List Lk) (Al:Option Addr) (cl:Nat) (a b c:Int) (w:World) (hE:Env w) (hl:InLk w Al l) (hsd:soundB (sH l)=true) (hlen:l.length≤30)
 (hz:∀x,x∈l→x.2.2.2.1.size≤140737488355328∧x.2.2.2.2.size≤140737488355328) (hi:∀x,x∈l→(-9223372036854775808≤x.1∧x.1≤9223372036854775807)∧(-9223372036854775808≤x.2.1∧x.2.1≤9223372036854775807))
 (ha:0≤a∧a≤12) (hb:0≤b∧b≤12) (hc:0≤c∧c≤12) (h0:ev (sH l) [3] 0=ofQ a 12) (h1:ev (sH l) [3] 1=ofQ b 12) (h2:ev (sH l) [3] 2=ofQ c 12) (h3:ev (sH l) [3] 3=ofQ 1 1) :
 Calls Tryz.prog 42 #[.slice Al l.length cl,.int .i64 a,.int .i64 b,.int .i64 c] w fun e w'=>e=.returned (.bool true)∧Below w.heap.size w w':=by
 have hB2:Hid (Below w.heap.size w ((w.alloc (.cells #[.string ⟨#[97]⟩,.string ⟨#[98]⟩,.string ⟨#[99]⟩,.string ⟨#[112]⟩] 9)).alloc (.cells #[.int .i64 3] 3))):=(((Below.refl _ w).alloc (Nat.le_refl _) _).alloc (by simp) _);have hp2:Hid (Bk ((w.alloc (.cells #[.string ⟨#[97]⟩,.string ⟨#[98]⟩,.string ⟨#[99]⟩,.string ⟨#[112]⟩] 9)).alloc (.cells #[.int .i64 3] 3)) (w.heap.size) 9 [.string ⟨#[97]⟩,.string ⟨#[98]⟩,.string ⟨#[99]⟩,.string ⟨#[112]⟩]):=by have h:=Bk.new w 9 [.string ⟨#[97]⟩,.string ⟨#[98]⟩,.string ⟨#[99]⟩,.string ⟨#[112]⟩];have h:=h.alloc (.cells #[.int .i64 3] 3); exact h
 have hf2:Hid (Bk ((w.alloc (.cells #[.string ⟨#[97]⟩,.string ⟨#[98]⟩,.string ⟨#[99]⟩,.string ⟨#[112]⟩] 9)).alloc (.cells #[.int .i64 3] 3)) (w.heap.size+1) 3 [.int .i64 3]):=by have h:=Bk.new (w.alloc (.cells #[.string ⟨#[97]⟩,.string ⟨#[98]⟩,.string ⟨#[99]⟩,.string ⟨#[112]⟩] 9)) 3 [.int .i64 3];simp only[World.size_alloc]at h;exact h
 have kE:Hid (Calls Tryz.prog 17 #[.agg #[.slice (some ⟨w.heap.size,0,none⟩) 4 4,.slice Al l.length cl,.slice none 0 0],.slice (some ⟨w.heap.size+1,0,none⟩) 1 1] ((w.alloc (.cells #[.string ⟨#[97]⟩,.string ⟨#[98]⟩,.string ⟨#[99]⟩,.string ⟨#[112]⟩] 9)).alloc (.cells #[.int .i64 3] 3)) fun e w'=>(∃b,e=.returned (.tuple #[.slice (some ⟨b,0,none⟩) 4 4,.int .i64 0])∧RowB w' b 4 fun p=>rq (ev (sH l) [3] p))∧Below (((w.alloc (.cells #[.string ⟨#[97]⟩,.string ⟨#[98]⟩,.string ⟨#[99]⟩,.string ⟨#[112]⟩] 9)).alloc (.cells #[.int .i64 3] 3))).heap.size ((w.alloc (.cells #[.string ⟨#[97]⟩,.string ⟨#[98]⟩,.string ⟨#[99]⟩,.string ⟨#[112]⟩] 9)).alloc (.cells #[.int .i64 3] 3)) w'):=by
  have h:=eff7_any (sH l) (some ⟨w.heap.size,0,none⟩) Al none (some ⟨w.heap.size+1,0,none⟩) 4 cl 0 1 [3] ((w.alloc (.cells #[.string ⟨#[97]⟩,.string ⟨#[98]⟩,.string ⟨#[99]⟩,.string ⟨#[112]⟩] 9)).alloc (.cells #[.int .i64 3] 3)) (hE.below hB2.out) ⟨inStrB hp2.out,hl.below hB2.out,(fun h=>absurd h (Nat.lt_irrefl 0)),(show 4≤140737488355328 by decide),Nat.le_trans hlen (by decide),(show 0≤140737488355328 by decide),(show ∀x,x∈abcp→x.size≤140737488355328 by decide),hz,(fun x hx=>by cases hx),hi,(fun x hx=>by cases hx)⟩ (show 4≤8 by decide) (Nat.le_trans hlen (by decide)) (inIntB hf2.out) (by decide);refine h.mono fun e w' h=>⟨?_,h.2⟩;have h1:=h.1;rw[if_pos ⟨hsd,(show listB (4:Int) [3]=true by decide)⟩]at h1;obtain⟨b,e1,_,e2⟩:=h1;exact⟨b,e1,e2⟩
 have ka:Hid (∀W,Env W→Calls Tryz.prog 20 #[.int .i64 a,.int .i64 12] W fun e w'=>e=.returned (.agg #[.bool (rq (ofQ a 12)).1,.string (rq (ofQ a 12)).2.1,.string (rq (ofQ a 12)).2.2])∧Below W.heap.size W w'):=fun W hW=>of20_any a 12 W hW (by omega) (by omega) (by omega) (by omega) (by omega);have kb:Hid (∀W,Env W→Calls Tryz.prog 20 #[.int .i64 b,.int .i64 12] W fun e w'=>e=.returned (.agg #[.bool (rq (ofQ b 12)).1,.string (rq (ofQ b 12)).2.1,.string (rq (ofQ b 12)).2.2])∧Below W.heap.size W w'):=fun W hW=>of20_any b 12 W hW (by omega) (by omega) (by omega) (by omega) (by omega);have kc:Hid (∀W,Env W→Calls Tryz.prog 20 #[.int .i64 c,.int .i64 12] W fun e w'=>e=.returned (.agg #[.bool (rq (ofQ c 12)).1,.string (rq (ofQ c 12)).2.1,.string (rq (ofQ c 12)).2.2])∧Below W.heap.size W w'):=fun W hW=>of20_any c 12 W hW (by omega) (by omega) (by omega) (by omega) (by omega);have kd:Hid (∀W,Env W→Calls Tryz.prog 20 #[.int .i64 1,.int .i64 1] W fun e w'=>e=.returned (.agg #[.bool (rq (ofQ 1 1)).1,.string (rq (ofQ 1 1)).2.1,.string (rq (ofQ 1 1)).2.2])∧Below W.heap.size W w'):=fun W hW=>of20_any 1 1 W hW (by omega) (by omega) (by omega) (by omega) (by omega);have hrow:Hid (outL 4 (ev (sH l) [3])=[rq (ofQ a 12),rq (ofQ b 12),rq (ofQ c 12),rq (ofQ 1 1)]):=by rw[←h0,←h1,←h2,←h3];rfl
 clear h0 h1 h2 h3 hsd hz hi hl;replace hE:=Lib.hid hE;replace ha:=Lib.hid ha;replace hb:=Lib.hid hb;replace hc:=Lib.hid hc;obtain⟨qa,hqa⟩:∃q,q=ofQ a 12:=⟨_,rfl⟩;obtain⟨qb,hqb⟩:∃q,q=ofQ b 12:=⟨_,rfl⟩;obtain⟨qc,hqc⟩:∃q,q=ofQ c 12:=⟨_,rfl⟩;obtain⟨qd,hqd⟩:∃q,q=ofQ 1 1:=⟨_,rfl⟩;rw[←hqa]at ka hrow;rw[←hqb]at kb hrow;rw[←hqc]at kc hrow;rw[←hqd]at kd hrow;clear hqa hqb hqc hqd;go_enter Tryz.func42,Tryz.ntmps42
 go_wp2_with fail
 refine kE.out.mono ?_;rintro e w4 ⟨⟨eb,rfl,hR⟩,hb4⟩;have hB4:Hid (Below w.heap.size w w4):=hB2.out.trans (hb4.mono hB2.out.size);have hR4:=Lib.hid hR;clear hb4 hR kE
 go_wp2_with fail
 refine(ka.out _ (hE.out.below hB4.out)).mono ?_;rintro e w5 ⟨rfl,hbx⟩;have hB5:Hid (Below w.heap.size w w5):=hB4.out.trans (hbx.mono hB4.out.size);have hR5:Hid (RowB w5 eb 4 fun p=>rq (ev (sH l) [3] p)):=hR4.out.below hbx hR4.out.lt;clear hbx hB4 hR4 ka
 go_wp2_with fail
 refine(kb.out _ (hE.out.below hB5.out)).mono ?_;rintro e w6 ⟨rfl,hbx⟩;have hB6:Hid (Below w.heap.size w w6):=hB5.out.trans (hbx.mono hB5.out.size);have hR6:Hid (RowB w6 eb 4 fun p=>rq (ev (sH l) [3] p)):=hR5.out.below hbx hR5.out.lt;clear hbx hB5 hR5 kb
 go_wp2_with fail
 refine(kc.out _ (hE.out.below hB6.out)).mono ?_;rintro e w7 ⟨rfl,hbx⟩;have hB7:Hid (Below w.heap.size w w7):=hB6.out.trans (hbx.mono hB6.out.size);have hR7:Hid (RowB w7 eb 4 fun p=>rq (ev (sH l) [3] p)):=hR6.out.below hbx hR6.out.lt;clear hbx hB6 hR6 kc
 go_wp2_with fail
 refine(kd.out _ (hE.out.below hB7.out)).mono ?_;rintro e w8 ⟨rfl,hbx⟩;have hB8:Hid (Below w.heap.size w w8):=hB7.out.trans (hbx.mono hB7.out.size);have hR8:Hid (RowB w8 eb 4 fun p=>rq (ev (sH l) [3] p)):=hR7.out.below hbx hR7.out.lt;clear hbx hB7 hR7 kd
 have kS:Hid (Calls Tryz.prog 19 #[.slice (some ⟨eb,0,none⟩) 4 4,.slice (some ⟨w8.heap.size,0,none⟩) 4 4] (w8.alloc (.cells #[.bool (rq (qa)).1,.string (rq (qa)).2.1,.string (rq (qa)).2.2,.bool (rq (qb)).1,.string (rq (qb)).2.1,.string (rq (qb)).2.2,.bool (rq (qc)).1,.string (rq (qc)).2.1,.string (rq (qc)).2.2,.bool (rq (qd)).1,.string (rq (qd)).2.1,.string (rq (qd)).2.2] 37)) fun e w'=>e=.returned (.bool true)∧Below ((w8.alloc (.cells #[.bool (rq (qa)).1,.string (rq (qa)).2.1,.string (rq (qa)).2.2,.bool (rq (qb)).1,.string (rq (qb)).2.1,.string (rq (qb)).2.2,.bool (rq (qc)).1,.string (rq (qc)).2.1,.string (rq (qc)).2.2,.bool (rq (qd)).1,.string (rq (qd)).2.1,.string (rq (qd)).2.2] 37))).heap.size (w8.alloc (.cells #[.bool (rq (qa)).1,.string (rq (qa)).2.1,.string (rq (qa)).2.2,.bool (rq (qb)).1,.string (rq (qb)).2.1,.string (rq (qb)).2.2,.bool (rq (qc)).1,.string (rq (qc)).2.1,.string (rq (qc)).2.2,.bool (rq (qd)).1,.string (rq (qd)).2.1,.string (rq (qd)).2.2] 37)) w'):=by
  have h:=same20_any (some ⟨eb,0,none⟩) (some ⟨w8.heap.size,0,none⟩) 4 4 (outL 4 (ev (sH l) [3])) [rq qa,rq qb,rq qc,rq qd] (w8.alloc (.cells #[.bool (rq (qa)).1,.string (rq (qa)).2.1,.string (rq (qa)).2.2,.bool (rq (qb)).1,.string (rq (qb)).2.1,.string (rq (qb)).2.2,.bool (rq (qc)).1,.string (rq (qc)).2.1,.string (rq (qc)).2.2,.bool (rq (qd)).1,.string (rq (qd)).2.1,.string (rq (qd)).2.2] 37)) (inRow_rowB (hR8.out.alloc _)) (inRow4 (Bk.new _ _ _)) (by rw[outL_length];omega);rw[hrow.out,decide_eq_true (rfl:[rq qa,rq qb,rq qc,rq qd]=_)]at h;exact h
 go_wp2_with fail
 refine kS.out.mono ?_;rintro e w9 ⟨rfl,hbx⟩;have hB9:Hid (Below w.heap.size w w9):=(hB8.out.alloc hB8.out.size _).trans (hbx.mono (hB8.out.alloc hB8.out.size (.cells #[.bool (rq (qa)).1,.string (rq (qa)).2.1,.string (rq (qa)).2.2,.bool (rq (qb)).1,.string (rq (qb)).2.1,.string (rq (qb)).2.2,.bool (rq (qc)).1,.string (rq (qc)).2.1,.string (rq (qc)).2.2,.bool (rq (qd)).1,.string (rq (qd)).2.1,.string (rq (qd)).2.2] 37)).size);clear hbx kS;go_wp2;go_ret;exact⟨rfl,hB9.out⟩
theorem half_12:qv (ofQ 1 2)=.agg #[.bool false,.string ⟨#[49]⟩,.string ⟨#[50]⟩]:=by kernel_rfl
theorem all_11:qv (ofQ 1 1)=.agg #[.bool false,.string ⟨#[49]⟩,.string ⟨#[49]⟩]:=by kernel_rfl
def lH1:List Lk:=[(0,3,false,⟨#[49]⟩,⟨#[50]⟩),(1,0,false,⟨#[49]⟩,⟨#[50]⟩)]
theorem lH1_sound:soundB (sH lH1)=true:=by decide +kernel
theorem lH1_cap:capL lH1=hL1:=by decide +kernel
theorem lH1_in {W:World} {b:Nat} (h:Bk W b 42 [.int .i64 0,.int .i64 3,.bool false,.string ⟨#[49]⟩,.string ⟨#[50]⟩,.int .i64 1,.int .i64 0,.bool false,.string ⟨#[49]⟩,.string ⟨#[50]⟩]):InLk W (some ⟨b,0,none⟩) lH1:=fun _=>⟨b,0,rfl,h.lt,fun j hj=>by
 match j,hj with
 | 0,_=>exact⟨h.cell (j:=0) rfl,h.cell (j:=1) rfl,h.cell (j:=2) rfl,h.cell (j:=3) rfl,h.cell (j:=4) rfl⟩
 | 1,_=>exact⟨h.cell (j:=5) rfl,h.cell (j:=6) rfl,h.cell (j:=7) rfl,h.cell (j:=8) rfl,h.cell (j:=9) rfl⟩
 | j+2,hj=>exact absurd hj (by simp[lH1])⟩
theorem lH1_ev:ev (sH lH1) [3] 0=ofQ 6 12∧ev (sH lH1) [3] 1=ofQ 3 12∧ev (sH lH1) [3] 2=ofQ 0 12∧ev (sH lH1) [3] 3=ofQ 1 1:=by
 have h:=ev_eff (F:=[3]) lH1_sound (few_many _ lH1_sound (by decide));have hL:=caps_of lH1_sound;have e1:(sH lH1).ps.length=4:=rfl;have e2:toN [3]=[3]:=rfl;have e3:(sH lH1).cap=lH1:=rfl;rw[e1,e2,e3,lH1_cap]at h;rw[e1,e3,lH1_cap]at hL;obtain⟨a0,a1,a2,a3⟩:=head1 h;rw[a0,a1,a2,a3];exact⟨by decide +kernel,by decide +kernel,by decide +kernel,by decide +kernel⟩
def lH2:List Lk:=[(0,1,false,⟨#[49]⟩,⟨#[50]⟩),(0,3,false,⟨#[49]⟩,⟨#[50]⟩),(1,0,false,⟨#[49]⟩,⟨#[50]⟩)]
theorem lH2_sound:soundB (sH lH2)=true:=by decide +kernel
theorem lH2_cap:capL lH2=hL2:=by decide +kernel
theorem lH2_in {W:World} {b:Nat} (h:Bk W b 42 [.int .i64 0,.int .i64 1,.bool false,.string ⟨#[49]⟩,.string ⟨#[50]⟩,.int .i64 0,.int .i64 3,.bool false,.string ⟨#[49]⟩,.string ⟨#[50]⟩,.int .i64 1,.int .i64 0,.bool false,.string ⟨#[49]⟩,.string ⟨#[50]⟩]):InLk W (some ⟨b,0,none⟩) lH2:=fun _=>⟨b,0,rfl,h.lt,fun j hj=>by
 match j,hj with
 | 0,_=>exact⟨h.cell (j:=0) rfl,h.cell (j:=1) rfl,h.cell (j:=2) rfl,h.cell (j:=3) rfl,h.cell (j:=4) rfl⟩
 | 1,_=>exact⟨h.cell (j:=5) rfl,h.cell (j:=6) rfl,h.cell (j:=7) rfl,h.cell (j:=8) rfl,h.cell (j:=9) rfl⟩
 | 2,_=>exact⟨h.cell (j:=10) rfl,h.cell (j:=11) rfl,h.cell (j:=12) rfl,h.cell (j:=13) rfl,h.cell (j:=14) rfl⟩
 | j+3,hj=>exact absurd hj (by simp[lH2])⟩
theorem lH2_ev:ev (sH lH2) [3] 0=ofQ 8 12∧ev (sH lH2) [3] 1=ofQ 4 12∧ev (sH lH2) [3] 2=ofQ 0 12∧ev (sH lH2) [3] 3=ofQ 1 1:=by
 have h:=ev_eff (F:=[3]) lH2_sound (few_many _ lH2_sound (by decide));have hL:=caps_of lH2_sound;have e1:(sH lH2).ps.length=4:=rfl;have e2:toN [3]=[3]:=rfl;have e3:(sH lH2).cap=lH2:=rfl;rw[e1,e2,e3,lH2_cap]at h;rw[e1,e3,lH2_cap]at hL;obtain⟨a0,a1,a2,a3⟩:=head2 h;rw[a0,a1,a2,a3];exact⟨by decide +kernel,by decide +kernel,by decide +kernel,by decide +kernel⟩
def lH3:List Lk:=[(0,1,false,⟨#[49]⟩,⟨#[49]⟩),(1,0,false,⟨#[49]⟩,⟨#[49]⟩)]
theorem lH3_sound:soundB (sH lH3)=true:=by decide +kernel
theorem lH3_cap:capL lH3=hL3:=by decide +kernel
theorem lH3_in {W:World} {b:Nat} (h:Bk W b 42 [.int .i64 0,.int .i64 1,.bool false,.string ⟨#[49]⟩,.string ⟨#[49]⟩,.int .i64 1,.int .i64 0,.bool false,.string ⟨#[49]⟩,.string ⟨#[49]⟩]):InLk W (some ⟨b,0,none⟩) lH3:=fun _=>⟨b,0,rfl,h.lt,fun j hj=>by
 match j,hj with
 | 0,_=>exact⟨h.cell (j:=0) rfl,h.cell (j:=1) rfl,h.cell (j:=2) rfl,h.cell (j:=3) rfl,h.cell (j:=4) rfl⟩
 | 1,_=>exact⟨h.cell (j:=5) rfl,h.cell (j:=6) rfl,h.cell (j:=7) rfl,h.cell (j:=8) rfl,h.cell (j:=9) rfl⟩
 | j+2,hj=>exact absurd hj (by simp[lH3])⟩
theorem lH3_ev:ev (sH lH3) [3] 0=ofQ 0 12∧ev (sH lH3) [3] 1=ofQ 0 12∧ev (sH lH3) [3] 2=ofQ 0 12∧ev (sH lH3) [3] 3=ofQ 1 1:=by
 have h:=ev_eff (F:=[3]) lH3_sound (few_many _ lH3_sound (by decide));have hL:=caps_of lH3_sound;have e1:(sH lH3).ps.length=4:=rfl;have e2:toN [3]=[3]:=rfl;have e3:(sH lH3).cap=lH3:=rfl;rw[e1,e2,e3,lH3_cap]at h;rw[e1,e3,lH3_cap]at hL;obtain⟨a0,a1,a2,a3⟩:=head3 hL h;rw[a0,a1,a2,a3];exact⟨by decide +kernel,by decide +kernel,by decide +kernel,by decide +kernel⟩
def lH4:List Lk:=[(0,3,false,⟨#[49]⟩,⟨#[49]⟩),(2,0,false,⟨#[49]⟩,⟨#[50]⟩),(2,1,false,⟨#[49]⟩,⟨#[50]⟩)]
theorem lH4_sound:soundB (sH lH4)=true:=by decide +kernel
theorem lH4_cap:capL lH4=hL4:=by decide +kernel
theorem lH4_in {W:World} {b:Nat} (h:Bk W b 42 [.int .i64 0,.int .i64 3,.bool false,.string ⟨#[49]⟩,.string ⟨#[49]⟩,.int .i64 2,.int .i64 0,.bool false,.string ⟨#[49]⟩,.string ⟨#[50]⟩,.int .i64 2,.int .i64 1,.bool false,.string ⟨#[49]⟩,.string ⟨#[50]⟩]):InLk W (some ⟨b,0,none⟩) lH4:=fun _=>⟨b,0,rfl,h.lt,fun j hj=>by
 match j,hj with
 | 0,_=>exact⟨h.cell (j:=0) rfl,h.cell (j:=1) rfl,h.cell (j:=2) rfl,h.cell (j:=3) rfl,h.cell (j:=4) rfl⟩
 | 1,_=>exact⟨h.cell (j:=5) rfl,h.cell (j:=6) rfl,h.cell (j:=7) rfl,h.cell (j:=8) rfl,h.cell (j:=9) rfl⟩
 | 2,_=>exact⟨h.cell (j:=10) rfl,h.cell (j:=11) rfl,h.cell (j:=12) rfl,h.cell (j:=13) rfl,h.cell (j:=14) rfl⟩
 | j+3,hj=>exact absurd hj (by simp[lH4])⟩
theorem lH4_ev:ev (sH lH4) [3] 0=ofQ 12 12∧ev (sH lH4) [3] 1=ofQ 0 12∧ev (sH lH4) [3] 2=ofQ 6 12∧ev (sH lH4) [3] 3=ofQ 1 1:=by
 have h:=ev_eff (F:=[3]) lH4_sound (few_many _ lH4_sound (by decide));have hL:=caps_of lH4_sound;have e1:(sH lH4).ps.length=4:=rfl;have e2:toN [3]=[3]:=rfl;have e3:(sH lH4).cap=lH4:=rfl;rw[e1,e2,e3,lH4_cap]at h;rw[e1,e3,lH4_cap]at hL;obtain⟨a0,a1,a2,a3⟩:=head4 h;rw[a0,a1,a2,a3];exact⟨by decide +kernel,by decide +kernel,by decide +kernel,by decide +kernel⟩
theorem head20_any (w:World) (hE:Env w):Calls Tryz.prog 15 #[] w fun e w'=>e=.returned (.bool true)∧Below w.heap.size w w':=by
 have kh:Hid (∀W,Env W→Calls Tryz.prog 20 #[.int .i64 1,.int .i64 2] W fun e w'=>e=.returned (.agg #[.bool false,.string ⟨#[49]⟩,.string ⟨#[50]⟩])∧Below W.heap.size W w'):=fun W hW=>by have h:=of20_any 1 2 W hW (by omega) (by omega) (by omega) (by omega) (by omega);rw[half_12]at h;exact h
 have ka:Hid (∀W,Env W→Calls Tryz.prog 20 #[.int .i64 1,.int .i64 1] W fun e w'=>e=.returned (.agg #[.bool false,.string ⟨#[49]⟩,.string ⟨#[49]⟩])∧Below W.heap.size W w'):=fun W hW=>by have h:=of20_any 1 1 W hW (by omega) (by omega) (by omega) (by omega) (by omega);rw[all_11]at h;exact h
 replace hE:=Lib.hid hE;have hB1:Hid (Below w.heap.size w w):=Below.refl _ _;go_enter Tryz.func15,Tryz.ntmps15;have kx:=Lib.hid (kh.out _ (hE.out.below hB1.out))
 go_wp2_with fail
 refine kx.out.mono ?_;rintro e w2 ⟨rfl,hb⟩;have hB2:=Lib.hid (hB1.out.trans (hb.mono hB1.out.size));clear hb hB1 kx;have kx:=Lib.hid (ka.out _ (hE.out.below hB2.out))
 go_wp2_with fail
 refine kx.out.mono ?_;rintro e w3 ⟨rfl,hb⟩;have hB3:=Lib.hid (hB2.out.trans (hb.mono hB2.out.size));clear hb hB2 kx;clear kh ka;have hB4:Hid (Below w.heap.size w (w3.alloc (.cells #[.bool false,.string ⟨#[49]⟩,.string ⟨#[50]⟩] 37))):=hB3.out.alloc hB3.out.size _;clear hB3;have hh4:Hid (Bk (w3.alloc (.cells #[.bool false,.string ⟨#[49]⟩,.string ⟨#[50]⟩] 37)) w3.heap.size 37 [.bool false,.string ⟨#[49]⟩,.string ⟨#[50]⟩]):=Bk.new _ _ _;have hB5:Hid (Below w.heap.size w ((w3.alloc (.cells #[.bool false,.string ⟨#[49]⟩,.string ⟨#[50]⟩] 37)).alloc (.cells #[.bool false,.string ⟨#[49]⟩,.string ⟨#[49]⟩] 37))):=hB4.out.alloc hB4.out.size _;have hh5:=Lib.hid (hh4.out.alloc (.cells #[.bool false,.string ⟨#[49]⟩,.string ⟨#[49]⟩] 37));clear hB4 hh4;have ha5:Hid (Bk ((w3.alloc (.cells #[.bool false,.string ⟨#[49]⟩,.string ⟨#[50]⟩] 37)).alloc (.cells #[.bool false,.string ⟨#[49]⟩,.string ⟨#[49]⟩] 37)) (w3.alloc (.cells #[.bool false,.string ⟨#[49]⟩,.string ⟨#[50]⟩] 37)).heap.size 37 [.bool false,.string ⟨#[49]⟩,.string ⟨#[49]⟩]):=Bk.new _ _ _;have ha9:Hid (Bk ((w3.alloc (.cells #[.bool false,.string ⟨#[49]⟩,.string ⟨#[50]⟩] 37)).alloc (.cells #[.bool false,.string ⟨#[49]⟩,.string ⟨#[49]⟩] 37)) (w3.heap.size+1) 37 [.bool false,.string ⟨#[49]⟩,.string ⟨#[49]⟩]):=by have h:=ha5.out;simp only[World.size_alloc]at h;exact h
 clear ha5;have x0:=hh5.out.cell (j:=0) rfl;have x1:=hh5.out.cell (j:=1) rfl;have x2:=hh5.out.cell (j:=2) rfl;have x9:=hh5.out.lt;have y0:=ha9.out.cell (j:=0) rfl;have y1:=ha9.out.cell (j:=1) rfl;have y2:=ha9.out.cell (j:=2) rfl;have y9:=ha9.out.lt;have hBl:Hid (Below w.heap.size w (((w3.alloc (.cells #[.bool false,.string ⟨#[49]⟩,.string ⟨#[50]⟩] 37)).alloc (.cells #[.bool false,.string ⟨#[49]⟩,.string ⟨#[49]⟩] 37)).alloc (.cells #[.int .i64 0,.int .i64 3,.bool false,.string ⟨#[49]⟩,.string ⟨#[50]⟩,.int .i64 1,.int .i64 0,.bool false,.string ⟨#[49]⟩,.string ⟨#[50]⟩] 42))):=hB5.out.alloc hB5.out.size _;have kx:Hid (Calls Tryz.prog 42 #[.slice (some ⟨w3.heap.size+1+1,0,none⟩) 2 2,.int .i64 6,.int .i64 3,.int .i64 0] (((w3.alloc (.cells #[.bool false,.string ⟨#[49]⟩,.string ⟨#[50]⟩] 37)).alloc (.cells #[.bool false,.string ⟨#[49]⟩,.string ⟨#[49]⟩] 37)).alloc (.cells #[.int .i64 0,.int .i64 3,.bool false,.string ⟨#[49]⟩,.string ⟨#[50]⟩,.int .i64 1,.int .i64 0,.bool false,.string ⟨#[49]⟩,.string ⟨#[50]⟩] 42)) fun e w'=>e=.returned (.bool true)∧Below ((((w3.alloc (.cells #[.bool false,.string ⟨#[49]⟩,.string ⟨#[50]⟩] 37)).alloc (.cells #[.bool false,.string ⟨#[49]⟩,.string ⟨#[49]⟩] 37)).alloc (.cells #[.int .i64 0,.int .i64 3,.bool false,.string ⟨#[49]⟩,.string ⟨#[50]⟩,.int .i64 1,.int .i64 0,.bool false,.string ⟨#[49]⟩,.string ⟨#[50]⟩] 42))).heap.size (((w3.alloc (.cells #[.bool false,.string ⟨#[49]⟩,.string ⟨#[50]⟩] 37)).alloc (.cells #[.bool false,.string ⟨#[49]⟩,.string ⟨#[49]⟩] 37)).alloc (.cells #[.int .i64 0,.int .i64 3,.bool false,.string ⟨#[49]⟩,.string ⟨#[50]⟩,.int .i64 1,.int .i64 0,.bool false,.string ⟨#[49]⟩,.string ⟨#[50]⟩] 42)) w'):=shares_any lH1 (some ⟨w3.heap.size+1+1,0,none⟩) 2 6 3 0 (((w3.alloc (.cells #[.bool false,.string ⟨#[49]⟩,.string ⟨#[50]⟩] 37)).alloc (.cells #[.bool false,.string ⟨#[49]⟩,.string ⟨#[49]⟩] 37)).alloc (.cells #[.int .i64 0,.int .i64 3,.bool false,.string ⟨#[49]⟩,.string ⟨#[50]⟩,.int .i64 1,.int .i64 0,.bool false,.string ⟨#[49]⟩,.string ⟨#[50]⟩] 42)) (hE.out.below hBl.out) (lH1_in (by have h:=Bk.new ((w3.alloc (.cells #[.bool false,.string ⟨#[49]⟩,.string ⟨#[50]⟩] 37)).alloc (.cells #[.bool false,.string ⟨#[49]⟩,.string ⟨#[49]⟩] 37)) 42 [.int .i64 0,.int .i64 3,.bool false,.string ⟨#[49]⟩,.string ⟨#[50]⟩,.int .i64 1,.int .i64 0,.bool false,.string ⟨#[49]⟩,.string ⟨#[50]⟩];(try simp only[World.size_alloc]at h);exact h)) lH1_sound (by decide) (by decide) (by decide) (by decide) (by decide) (by decide) lH1_ev.1 lH1_ev.2.1 lH1_ev.2.2.1 lH1_ev.2.2.2;have hB6:Hid (Below w.heap.size w (((w3.alloc (.cells #[.bool false,.string ⟨#[49]⟩,.string ⟨#[50]⟩] 37)).alloc (.cells #[.bool false,.string ⟨#[49]⟩,.string ⟨#[49]⟩] 37)).alloc (.cells #[.int .i64 0,.int .i64 3,.bool false,.string ⟨#[49]⟩,.string ⟨#[50]⟩,.int .i64 1,.int .i64 0,.bool false,.string ⟨#[49]⟩,.string ⟨#[50]⟩] 42))):=hB5.out.alloc hB5.out.size _;have hh6:=Lib.hid (hh5.out.alloc (.cells #[.int .i64 0,.int .i64 3,.bool false,.string ⟨#[49]⟩,.string ⟨#[50]⟩,.int .i64 1,.int .i64 0,.bool false,.string ⟨#[49]⟩,.string ⟨#[50]⟩] 42));have ha6:=Lib.hid (ha9.out.alloc (.cells #[.int .i64 0,.int .i64 3,.bool false,.string ⟨#[49]⟩,.string ⟨#[50]⟩,.int .i64 1,.int .i64 0,.bool false,.string ⟨#[49]⟩,.string ⟨#[50]⟩] 42));clear hB5 hh5 ha9
 go_wp2_with fail
 refine kx.out.mono ?_;rintro e w7 ⟨rfl,hb⟩;have hB7:=Lib.hid (hB6.out.trans (hb.mono hB6.out.size));have hh7:=Lib.hid (hh6.out.below hb);have ha7:=Lib.hid (ha6.out.below hb);clear hb hB6 hh6 ha6 kx x0 x1 x2 x9 y0 y1 y2 y9 hBl;have x0:=hh7.out.cell (j:=0) rfl;have x1:=hh7.out.cell (j:=1) rfl;have x2:=hh7.out.cell (j:=2) rfl;have x9:=hh7.out.lt;have y0:=ha7.out.cell (j:=0) rfl;have y1:=ha7.out.cell (j:=1) rfl;have y2:=ha7.out.cell (j:=2) rfl;have y9:=ha7.out.lt;have hBl:Hid (Below w.heap.size w (w7.alloc (.cells #[.int .i64 0,.int .i64 1,.bool false,.string ⟨#[49]⟩,.string ⟨#[50]⟩,.int .i64 0,.int .i64 3,.bool false,.string ⟨#[49]⟩,.string ⟨#[50]⟩,.int .i64 1,.int .i64 0,.bool false,.string ⟨#[49]⟩,.string ⟨#[50]⟩] 42))):=hB7.out.alloc hB7.out.size _;have kx:Hid (Calls Tryz.prog 42 #[.slice (some ⟨w7.heap.size,0,none⟩) 3 3,.int .i64 8,.int .i64 4,.int .i64 0] (w7.alloc (.cells #[.int .i64 0,.int .i64 1,.bool false,.string ⟨#[49]⟩,.string ⟨#[50]⟩,.int .i64 0,.int .i64 3,.bool false,.string ⟨#[49]⟩,.string ⟨#[50]⟩,.int .i64 1,.int .i64 0,.bool false,.string ⟨#[49]⟩,.string ⟨#[50]⟩] 42)) fun e w'=>e=.returned (.bool true)∧Below ((w7.alloc (.cells #[.int .i64 0,.int .i64 1,.bool false,.string ⟨#[49]⟩,.string ⟨#[50]⟩,.int .i64 0,.int .i64 3,.bool false,.string ⟨#[49]⟩,.string ⟨#[50]⟩,.int .i64 1,.int .i64 0,.bool false,.string ⟨#[49]⟩,.string ⟨#[50]⟩] 42))).heap.size (w7.alloc (.cells #[.int .i64 0,.int .i64 1,.bool false,.string ⟨#[49]⟩,.string ⟨#[50]⟩,.int .i64 0,.int .i64 3,.bool false,.string ⟨#[49]⟩,.string ⟨#[50]⟩,.int .i64 1,.int .i64 0,.bool false,.string ⟨#[49]⟩,.string ⟨#[50]⟩] 42)) w'):=shares_any lH2 (some ⟨w7.heap.size,0,none⟩) 3 8 4 0 (w7.alloc (.cells #[.int .i64 0,.int .i64 1,.bool false,.string ⟨#[49]⟩,.string ⟨#[50]⟩,.int .i64 0,.int .i64 3,.bool false,.string ⟨#[49]⟩,.string ⟨#[50]⟩,.int .i64 1,.int .i64 0,.bool false,.string ⟨#[49]⟩,.string ⟨#[50]⟩] 42)) (hE.out.below hBl.out) (lH2_in (by have h:=Bk.new w7 42 [.int .i64 0,.int .i64 1,.bool false,.string ⟨#[49]⟩,.string ⟨#[50]⟩,.int .i64 0,.int .i64 3,.bool false,.string ⟨#[49]⟩,.string ⟨#[50]⟩,.int .i64 1,.int .i64 0,.bool false,.string ⟨#[49]⟩,.string ⟨#[50]⟩];(try simp only[World.size_alloc]at h);exact h)) lH2_sound (by decide) (by decide) (by decide) (by decide) (by decide) (by decide) lH2_ev.1 lH2_ev.2.1 lH2_ev.2.2.1 lH2_ev.2.2.2;have hB8:Hid (Below w.heap.size w (w7.alloc (.cells #[.int .i64 0,.int .i64 1,.bool false,.string ⟨#[49]⟩,.string ⟨#[50]⟩,.int .i64 0,.int .i64 3,.bool false,.string ⟨#[49]⟩,.string ⟨#[50]⟩,.int .i64 1,.int .i64 0,.bool false,.string ⟨#[49]⟩,.string ⟨#[50]⟩] 42))):=hB7.out.alloc hB7.out.size _;have hh8:=Lib.hid (hh7.out.alloc (.cells #[.int .i64 0,.int .i64 1,.bool false,.string ⟨#[49]⟩,.string ⟨#[50]⟩,.int .i64 0,.int .i64 3,.bool false,.string ⟨#[49]⟩,.string ⟨#[50]⟩,.int .i64 1,.int .i64 0,.bool false,.string ⟨#[49]⟩,.string ⟨#[50]⟩] 42));have ha8:=Lib.hid (ha7.out.alloc (.cells #[.int .i64 0,.int .i64 1,.bool false,.string ⟨#[49]⟩,.string ⟨#[50]⟩,.int .i64 0,.int .i64 3,.bool false,.string ⟨#[49]⟩,.string ⟨#[50]⟩,.int .i64 1,.int .i64 0,.bool false,.string ⟨#[49]⟩,.string ⟨#[50]⟩] 42));clear hB7 hh7 ha7
 go_wp2_with fail
 refine kx.out.mono ?_;rintro e w9 ⟨rfl,hb⟩;have hB9:=Lib.hid (hB8.out.trans (hb.mono hB8.out.size));have hh9:=Lib.hid (hh8.out.below hb);have ha9:=Lib.hid (ha8.out.below hb);clear hb hB8 hh8 ha8 kx x0 x1 x2 x9 y0 y1 y2 y9 hBl;have x0:=hh9.out.cell (j:=0) rfl;have x1:=hh9.out.cell (j:=1) rfl;have x2:=hh9.out.cell (j:=2) rfl;have x9:=hh9.out.lt;have y0:=ha9.out.cell (j:=0) rfl;have y1:=ha9.out.cell (j:=1) rfl;have y2:=ha9.out.cell (j:=2) rfl;have y9:=ha9.out.lt;have hBl:Hid (Below w.heap.size w (w9.alloc (.cells #[.int .i64 0,.int .i64 1,.bool false,.string ⟨#[49]⟩,.string ⟨#[49]⟩,.int .i64 1,.int .i64 0,.bool false,.string ⟨#[49]⟩,.string ⟨#[49]⟩] 42))):=hB9.out.alloc hB9.out.size _;have kx:Hid (Calls Tryz.prog 42 #[.slice (some ⟨w9.heap.size,0,none⟩) 2 2,.int .i64 0,.int .i64 0,.int .i64 0] (w9.alloc (.cells #[.int .i64 0,.int .i64 1,.bool false,.string ⟨#[49]⟩,.string ⟨#[49]⟩,.int .i64 1,.int .i64 0,.bool false,.string ⟨#[49]⟩,.string ⟨#[49]⟩] 42)) fun e w'=>e=.returned (.bool true)∧Below ((w9.alloc (.cells #[.int .i64 0,.int .i64 1,.bool false,.string ⟨#[49]⟩,.string ⟨#[49]⟩,.int .i64 1,.int .i64 0,.bool false,.string ⟨#[49]⟩,.string ⟨#[49]⟩] 42))).heap.size (w9.alloc (.cells #[.int .i64 0,.int .i64 1,.bool false,.string ⟨#[49]⟩,.string ⟨#[49]⟩,.int .i64 1,.int .i64 0,.bool false,.string ⟨#[49]⟩,.string ⟨#[49]⟩] 42)) w'):=shares_any lH3 (some ⟨w9.heap.size,0,none⟩) 2 0 0 0 (w9.alloc (.cells #[.int .i64 0,.int .i64 1,.bool false,.string ⟨#[49]⟩,.string ⟨#[49]⟩,.int .i64 1,.int .i64 0,.bool false,.string ⟨#[49]⟩,.string ⟨#[49]⟩] 42)) (hE.out.below hBl.out) (lH3_in (by have h:=Bk.new w9 42 [.int .i64 0,.int .i64 1,.bool false,.string ⟨#[49]⟩,.string ⟨#[49]⟩,.int .i64 1,.int .i64 0,.bool false,.string ⟨#[49]⟩,.string ⟨#[49]⟩];(try simp only[World.size_alloc]at h);exact h)) lH3_sound (by decide) (by decide) (by decide) (by decide) (by decide) (by decide) lH3_ev.1 lH3_ev.2.1 lH3_ev.2.2.1 lH3_ev.2.2.2;have hB10:Hid (Below w.heap.size w (w9.alloc (.cells #[.int .i64 0,.int .i64 1,.bool false,.string ⟨#[49]⟩,.string ⟨#[49]⟩,.int .i64 1,.int .i64 0,.bool false,.string ⟨#[49]⟩,.string ⟨#[49]⟩] 42))):=hB9.out.alloc hB9.out.size _;have hh10:=Lib.hid (hh9.out.alloc (.cells #[.int .i64 0,.int .i64 1,.bool false,.string ⟨#[49]⟩,.string ⟨#[49]⟩,.int .i64 1,.int .i64 0,.bool false,.string ⟨#[49]⟩,.string ⟨#[49]⟩] 42));have ha10:=Lib.hid (ha9.out.alloc (.cells #[.int .i64 0,.int .i64 1,.bool false,.string ⟨#[49]⟩,.string ⟨#[49]⟩,.int .i64 1,.int .i64 0,.bool false,.string ⟨#[49]⟩,.string ⟨#[49]⟩] 42));clear hB9 hh9 ha9
 go_wp2_with fail
 refine kx.out.mono ?_;rintro e w11 ⟨rfl,hb⟩;have hB11:=Lib.hid (hB10.out.trans (hb.mono hB10.out.size));have hh11:=Lib.hid (hh10.out.below hb);have ha11:=Lib.hid (ha10.out.below hb);clear hb hB10 hh10 ha10 kx x0 x1 x2 x9 y0 y1 y2 y9 hBl;have x0:=hh11.out.cell (j:=0) rfl;have x1:=hh11.out.cell (j:=1) rfl;have x2:=hh11.out.cell (j:=2) rfl;have x9:=hh11.out.lt;have y0:=ha11.out.cell (j:=0) rfl;have y1:=ha11.out.cell (j:=1) rfl;have y2:=ha11.out.cell (j:=2) rfl;have y9:=ha11.out.lt;have hBl:Hid (Below w.heap.size w (w11.alloc (.cells #[.int .i64 0,.int .i64 3,.bool false,.string ⟨#[49]⟩,.string ⟨#[49]⟩,.int .i64 2,.int .i64 0,.bool false,.string ⟨#[49]⟩,.string ⟨#[50]⟩,.int .i64 2,.int .i64 1,.bool false,.string ⟨#[49]⟩,.string ⟨#[50]⟩] 42))):=hB11.out.alloc hB11.out.size _;have kx:Hid (Calls Tryz.prog 42 #[.slice (some ⟨w11.heap.size,0,none⟩) 3 3,.int .i64 12,.int .i64 0,.int .i64 6] (w11.alloc (.cells #[.int .i64 0,.int .i64 3,.bool false,.string ⟨#[49]⟩,.string ⟨#[49]⟩,.int .i64 2,.int .i64 0,.bool false,.string ⟨#[49]⟩,.string ⟨#[50]⟩,.int .i64 2,.int .i64 1,.bool false,.string ⟨#[49]⟩,.string ⟨#[50]⟩] 42)) fun e w'=>e=.returned (.bool true)∧Below ((w11.alloc (.cells #[.int .i64 0,.int .i64 3,.bool false,.string ⟨#[49]⟩,.string ⟨#[49]⟩,.int .i64 2,.int .i64 0,.bool false,.string ⟨#[49]⟩,.string ⟨#[50]⟩,.int .i64 2,.int .i64 1,.bool false,.string ⟨#[49]⟩,.string ⟨#[50]⟩] 42))).heap.size (w11.alloc (.cells #[.int .i64 0,.int .i64 3,.bool false,.string ⟨#[49]⟩,.string ⟨#[49]⟩,.int .i64 2,.int .i64 0,.bool false,.string ⟨#[49]⟩,.string ⟨#[50]⟩,.int .i64 2,.int .i64 1,.bool false,.string ⟨#[49]⟩,.string ⟨#[50]⟩] 42)) w'):=shares_any lH4 (some ⟨w11.heap.size,0,none⟩) 3 12 0 6 (w11.alloc (.cells #[.int .i64 0,.int .i64 3,.bool false,.string ⟨#[49]⟩,.string ⟨#[49]⟩,.int .i64 2,.int .i64 0,.bool false,.string ⟨#[49]⟩,.string ⟨#[50]⟩,.int .i64 2,.int .i64 1,.bool false,.string ⟨#[49]⟩,.string ⟨#[50]⟩] 42)) (hE.out.below hBl.out) (lH4_in (by have h:=Bk.new w11 42 [.int .i64 0,.int .i64 3,.bool false,.string ⟨#[49]⟩,.string ⟨#[49]⟩,.int .i64 2,.int .i64 0,.bool false,.string ⟨#[49]⟩,.string ⟨#[50]⟩,.int .i64 2,.int .i64 1,.bool false,.string ⟨#[49]⟩,.string ⟨#[50]⟩];(try simp only[World.size_alloc]at h);exact h)) lH4_sound (by decide) (by decide) (by decide) (by decide) (by decide) (by decide) lH4_ev.1 lH4_ev.2.1 lH4_ev.2.2.1 lH4_ev.2.2.2;have hB12:Hid (Below w.heap.size w (w11.alloc (.cells #[.int .i64 0,.int .i64 3,.bool false,.string ⟨#[49]⟩,.string ⟨#[49]⟩,.int .i64 2,.int .i64 0,.bool false,.string ⟨#[49]⟩,.string ⟨#[50]⟩,.int .i64 2,.int .i64 1,.bool false,.string ⟨#[49]⟩,.string ⟨#[50]⟩] 42))):=hB11.out.alloc hB11.out.size _;have hh12:=Lib.hid (hh11.out.alloc (.cells #[.int .i64 0,.int .i64 3,.bool false,.string ⟨#[49]⟩,.string ⟨#[49]⟩,.int .i64 2,.int .i64 0,.bool false,.string ⟨#[49]⟩,.string ⟨#[50]⟩,.int .i64 2,.int .i64 1,.bool false,.string ⟨#[49]⟩,.string ⟨#[50]⟩] 42));have ha12:=Lib.hid (ha11.out.alloc (.cells #[.int .i64 0,.int .i64 3,.bool false,.string ⟨#[49]⟩,.string ⟨#[49]⟩,.int .i64 2,.int .i64 0,.bool false,.string ⟨#[49]⟩,.string ⟨#[50]⟩,.int .i64 2,.int .i64 1,.bool false,.string ⟨#[49]⟩,.string ⟨#[50]⟩] 42));clear hB11 hh11 ha11
 go_wp2_with fail
 refine kx.out.mono ?_;rintro e w13 ⟨rfl,hb⟩;have hB13:=Lib.hid (hB12.out.trans (hb.mono hB12.out.size));have hh13:=Lib.hid (hh12.out.below hb);have ha13:=Lib.hid (ha12.out.below hb);clear hb hB12 hh12 ha12 kx x0 x1 x2 x9 y0 y1 y2 y9 hBl;go_wp2;go_ret;exact⟨rfl,hB13.out⟩
end Sh
end
section
open Go.RowKit Go.Shelf
namespace Sh
open Nt Ci
def BoolPost (p:Bool→Prop) (w:World) (e:Ending) (w':World):Prop:=(∃r,e=.returned (.bool r)∧p r)∧Below w.heap.size w w'
theorem BoolPost.mkB {p:Bool→Prop} {w:World} {e:Ending} {w':World} {r:Bool} (h1:e=.returned (.bool r)) (h2:p r) (h3:Below w.heap.size w w'):BoolPost p w e w':=⟨⟨r,h1,h2⟩,h3⟩
theorem Short_some (g:Bool) (n d:ByteArray) (b:Nat) (w:World) (hb:Bk w b 37 [.bool g,.string n,.string d]) :
 Calls Tryz.prog 69 #[.int .i64 30,.slice (some ⟨b,0,none⟩) 1 1] w (BoolPost (fun _=>True) w):=by
 have c1:=hb.cell (j:=1) rfl;have c2:=hb.cell (j:=2) rfl;have c9:=hb.lt;replace hb:=Lib.hid hb;go_enter Tryz.func69,Tryz.ntmps69;go_wp2
 go_loopw [5] (fun ix wr=>∃(i:Nat),i≤1∧ix=.int .i64 (i:Int)∧wr=w) (fun ix _=>1-(intOf ix).toNat)
 case atStart=>exact⟨0,by omega,rfl,rfl⟩
 case round =>
  obtain⟨i,hi,rfl,rfl⟩:=hrel
  by_cases hlt:i<1
  · obtain rfl:i=0:=by omega
    by_cases h1:(30:Int)<(n.size:Int)
    · have m1:decide ((30:Int)<(n.size:Int))=true:=decide_eq_true h1;have m1n:decide (30<n.size)=true:=decide_eq_true (by omega);replace h1:=Lib.hid h1;go_wp2;go_ret;exact BoolPost.mkB (r:=false) rfl trivial (Below.refl _ _)
    · have m1:decide ((30:Int)<(n.size:Int))=false:=decide_eq_false h1;have m1n:decide (30<n.size)=false:=decide_eq_false (by omega);replace h1:=Lib.hid h1
      by_cases h2:(30:Int)<(d.size:Int)
      · have m2:decide ((30:Int)<(d.size:Int))=true:=decide_eq_true h2;have m2n:decide (30<d.size)=true:=decide_eq_true (by omega);replace h2:=Lib.hid h2;go_wp2;go_ret;exact BoolPost.mkB (r:=false) rfl trivial (Below.refl _ _)
      · have m2:decide ((30:Int)<(d.size:Int))=false:=decide_eq_false h2;have m2n:decide (30<d.size)=false:=decide_eq_false (by omega);replace h2:=Lib.hid h2;go_wp2;exact⟨⟨1,by omega,by go_num,by first | rfl | trivial⟩,by simp only[intOf];omega⟩
  · obtain rfl:i=1:=by omega
    go_wp2;go_ret;exact BoolPost.mkB (r:=true) rfl trivial (Below.refl _ _)
theorem Small_some (s:SR) (Ap Ac Av:Option Addr) (cp cc cv:Nat) (w:World) (hs:StIn w s Ap Ac Av) :
 Calls Tryz.prog 43 #[.agg #[.slice Ap s.ps.length cp,.slice Ac s.cap.length cc,.slice Av s.vot.length cv],.int .i64 7] w (BoolPost (fun r=>r=true→s.ps.length≤7∧s.cap.length≤30∧s.vot.length≤30) w):=by
 have hX1:Hid (Bk (w.alloc (.cells #[.slice Ap s.ps.length cp,.slice Ac s.cap.length cc,.slice Av s.vot.length cv] 25)) w.heap.size 25 (SC s Ap Ac Av cp cc cv)):=Bk.new w _ _;have hB1:Hid (Below w.heap.size w (w.alloc (.cells #[.slice Ap s.ps.length cp,.slice Ac s.cap.length cc,.slice Av s.vot.length cv] 25))):=(Below.refl _ w).alloc (Nat.le_refl _) _;have ksh:=Lib.hid (fun g n d b w h=>Short_some g n d b w h);replace hs:=Lib.hid hs;have u0:=hX1.out.cell (j:=0) rfl;have u1:=hX1.out.cell (j:=1) rfl;have u2:=hX1.out.cell (j:=2) rfl;have u9:=hX1.out.lt
 by_cases z0:(7:Int)<(s.ps.length:Int)
 · have m0:decide ((7:Int)<(s.ps.length:Int))=true:=decide_eq_true z0;have m0n:decide (7<s.ps.length)=true:=decide_eq_true (by omega);replace z0:=Lib.hid z0;go_enter Tryz.func43,Tryz.ntmps43;go_wp2;go_ret;exact BoolPost.mkB (r:=false) rfl (fun h=>(by cases h)) hB1.out
 · have m0 : decide ((7:Int)<(s.ps.length:Int))=false:=decide_eq_false z0;have m0n:decide (7<s.ps.length)=false:=decide_eq_false (by omega)
   by_cases z1:(30:Int)<(s.cap.length:Int)
   · have m1:decide ((30:Int)<(s.cap.length:Int))=true:=decide_eq_true z1;have m1n:decide (30<s.cap.length)=true:=decide_eq_true (by omega);replace z1:=Lib.hid z1;go_enter Tryz.func43,Tryz.ntmps43;go_wp2;go_ret;exact BoolPost.mkB (r:=false) rfl (fun h=>(by cases h)) hB1.out
   · have m1 : decide ((30:Int)<(s.cap.length:Int))=false:=decide_eq_false z1;have m1n:decide (30<s.cap.length)=false:=decide_eq_false (by omega)
     by_cases z2:(30:Int)<(s.vot.length:Int)
     · have m2:decide ((30:Int)<(s.vot.length:Int))=true:=decide_eq_true z2;have m2n:decide (30<s.vot.length)=true:=decide_eq_true (by omega);replace z2:=Lib.hid z2;go_enter Tryz.func43,Tryz.ntmps43;go_wp2;go_ret;exact BoolPost.mkB (r:=false) rfl (fun h=>(by cases h)) hB1.out
     · have m2 : decide ((30:Int)<(s.vot.length:Int))=false:=decide_eq_false z2;have m2n:decide (30<s.vot.length)=false:=decide_eq_false (by omega);have hok:Hid (s.ps.length≤7∧s.cap.length≤30∧s.vot.length≤30):=⟨by omega,by omega,by omega⟩;obtain⟨y0,y1,y2⟩:=hok.out;replace z0:=Lib.hid z0;replace z1:=Lib.hid z1;replace z2:=Lib.hid z2;go_enter Tryz.func43,Tryz.ntmps43;go_wp2;clear u0 u1 u2 u9
       go_loopw [5] (fun ix wr=>∃(i:Nat),i≤s.ps.length∧ix=.int .i64 (i:Int)∧Hid (Below w.heap.size w wr)∧Hid (Bk wr w.heap.size 25 (SC s Ap Ac Av cp cc cv))) (fun ix _=>s.ps.length-(intOf ix).toNat)
       case atStart=>exact⟨0,Nat.zero_le _,rfl,hB1,hX1⟩
       case round =>
        obtain⟨i,hi,rfl,hB,hX⟩:=hrel;obtain⟨wz,rfl⟩:∃z,z=wr:=⟨_,rfl⟩;have u0:=hX.out.cell (j:=0) rfl;have u1:=hX.out.cell (j:=1) rfl;have u2:=hX.out.cell (j:=2) rfl;have u9:=hX.out.lt;have j0:(0:Int)≤(i:Int):=by omega
        by_cases hlt:i<s.ps.length
        · have j1:(i:Int)<(s.ps.length:Int):=by omega
          obtain⟨b,o,rfl,hbl,hc⟩:=(hs.out.below hB.out).ps (by omega);have e1:=hc i hlt;generalize s.ps[i]=x at e1;clear hc
          by_cases h1:(60:Int)<(x.size:Int)
          · have q1:decide ((60:Int)<(x.size:Int))=true:=decide_eq_true h1;have q1n:decide (60<x.size)=true:=decide_eq_true (by omega);replace h1:=Lib.hid h1;go_wp2;go_ret;exact BoolPost.mkB (r:=false) rfl (fun h=>(by cases h)) hB.out
          · have q1:decide ((60:Int)<(x.size:Int))=false:=decide_eq_false h1;have q1n:decide (60<x.size)=false:=decide_eq_false (by omega);replace h1:=Lib.hid h1;go_wp2
            go_roundw
            case rel=>exact⟨i+1,by omega,by go_num,hB,hX⟩
            case measure=>simp[intOf];omega
        · obtain rfl:i=s.ps.length:=by omega
          go_wp2;clear u0 u1 u2 u9
          go_loopw [6] (fun ix wr=>∃(i:Nat),i≤s.cap.length∧ix=.int .i64 (i:Int)∧Hid (Below w.heap.size w wr)∧Hid (Bk wr w.heap.size 25 (SC s Ap Ac Av cp cc cv))) (fun ix _=>s.cap.length-(intOf ix).toNat)
          case atStart=>exact⟨0,Nat.zero_le _,rfl,hB,hX⟩
          case round =>
           obtain⟨i,hi,rfl,hB,hX⟩:=hrel;obtain⟨wz,rfl⟩:∃z,z=wr:=⟨_,rfl⟩;have u0:=hX.out.cell (j:=0) rfl;have u1:=hX.out.cell (j:=1) rfl;have u2:=hX.out.cell (j:=2) rfl;have u9:=hX.out.lt;have j0:(0:Int)≤(i:Int):=by omega
           by_cases hlt:i<s.cap.length
           · have j1:(i:Int)<(s.cap.length:Int):=by omega
             obtain⟨b,o,rfl,hbl,hc⟩:=(hs.out.below hB.out).cap (by omega);obtain⟨_,_,e3,e4,e5⟩:=hc i hlt;generalize s.cap[i]=x at e3 e4 e5;obtain⟨co,ho,gg,nn,dd⟩:=x;clear hc;replace e3:wz.cell? ⟨b,o+i*5+2,none⟩=some (.bool gg):=e3;replace e4:wz.cell? ⟨b,o+i*5+3,none⟩=some (.string nn):=e4;replace e5:wz.cell? ⟨b,o+i*5+4,none⟩=some (.string dd):=e5;have ks:=Lib.hid (ksh.out gg nn dd wz.heap.size _ (Bk.new wz 37 [.bool gg,.string nn,.string dd]));have hb4:Hid (Below wz.heap.size wz (wz.alloc (.cells #[.bool gg,.string nn,.string dd] 37))):=(Below.refl _ _).alloc (Nat.le_refl _) _
             go_wp2_with fail
             refine ks.out.mono ?_;rintro e w5 ⟨⟨r,rfl,_⟩,hb⟩;have hB5:=Lib.hid (hB.out.trans ((hb4.out.trans (hb.mono hb4.out.size)).mono hB.out.size));have hX5:=Lib.hid (hX.out.below (hb4.out.trans (hb.mono hb4.out.size)));clear hb e3 e4 e5 u0 u1 u2 u9
             cases r with
             | false =>
               go_wp2;go_ret;exact BoolPost.mkB (r:=false) rfl (fun h=>(by cases h)) hB5.out
             | true =>
               go_wp2
               go_roundw
               case rel=>exact⟨i+1,by omega,by go_num,hB5,hX5⟩
               case measure=>simp[intOf];omega
           · obtain rfl:i=s.cap.length:=by omega
             go_wp2;clear u0 u1 u2 u9
             go_loopw [7] (fun ix wr=>∃(i:Nat),i≤s.vot.length∧ix=.int .i64 (i:Int)∧Hid (Below w.heap.size w wr)∧Hid (Bk wr w.heap.size 25 (SC s Ap Ac Av cp cc cv))) (fun ix _=>s.vot.length-(intOf ix).toNat)
             case atStart=>exact⟨0,Nat.zero_le _,rfl,hB,hX⟩
             case round =>
              obtain⟨i,hi,rfl,hB,hX⟩:=hrel;obtain⟨wz,rfl⟩:∃z,z=wr:=⟨_,rfl⟩;have u0:=hX.out.cell (j:=0) rfl;have u1:=hX.out.cell (j:=1) rfl;have u2:=hX.out.cell (j:=2) rfl;have u9:=hX.out.lt;have j0:(0:Int)≤(i:Int):=by omega
              by_cases hlt:i<s.vot.length
              · have j1:(i:Int)<(s.vot.length:Int):=by omega
                obtain⟨b,o,rfl,hbl,hc⟩:=(hs.out.below hB.out).vot (by omega);obtain⟨_,_,e3,e4,e5⟩:=hc i hlt;generalize s.vot[i]=x at e3 e4 e5;obtain⟨co,ho,gg,nn,dd⟩:=x;clear hc;replace e3:wz.cell? ⟨b,o+i*5+2,none⟩=some (.bool gg):=e3;replace e4:wz.cell? ⟨b,o+i*5+3,none⟩=some (.string nn):=e4;replace e5:wz.cell? ⟨b,o+i*5+4,none⟩=some (.string dd):=e5;have ks:=Lib.hid (ksh.out gg nn dd wz.heap.size _ (Bk.new wz 37 [.bool gg,.string nn,.string dd]));have hb4:Hid (Below wz.heap.size wz (wz.alloc (.cells #[.bool gg,.string nn,.string dd] 37))):=(Below.refl _ _).alloc (Nat.le_refl _) _
                go_wp2_with fail
                refine ks.out.mono ?_;rintro e w5 ⟨⟨r,rfl,_⟩,hb⟩;have hB5:=Lib.hid (hB.out.trans ((hb4.out.trans (hb.mono hb4.out.size)).mono hB.out.size));have hX5:=Lib.hid (hX.out.below (hb4.out.trans (hb.mono hb4.out.size)));clear hb e3 e4 e5 u0 u1 u2 u9
                cases r with
                | false =>
                  go_wp2;go_ret;exact BoolPost.mkB (r:=false) rfl (fun h=>(by cases h)) hB5.out
                | true =>
                  go_wp2
                  go_roundw
                  case rel=>exact⟨i+1,by omega,by go_num,hB5,hX5⟩
                  case measure=>simp[intOf];omega
              · obtain rfl:i=s.vot.length:=by omega
                go_wp2;go_ret;exact BoolPost.mkB (r:=true) rfl (fun _=>hok.out) hB.out
theorem few7_some (s:SR) (Ap Ac Av:Option Addr) (cp cc cv:Nat) (w:World) (hs:StIn w s Ap Ac Av) :
 Calls Tryz.prog 16 #[.agg #[.slice Ap s.ps.length cp,.slice Ac s.cap.length cc,.slice Av s.vot.length cv]] w (BoolPost (fun r=>r=true→s.ps.length≤7∧s.cap.length≤30∧s.vot.length≤30) w):=by
 have hX1:Hid (Bk (w.alloc (.cells #[.slice Ap s.ps.length cp,.slice Ac s.cap.length cc,.slice Av s.vot.length cv] 25)) w.heap.size 25 (SC s Ap Ac Av cp cc cv)):=Bk.new w _ _;have hB1:Hid (Below w.heap.size w (w.alloc (.cells #[.slice Ap s.ps.length cp,.slice Ac s.cap.length cc,.slice Av s.vot.length cv] 25))):=(Below.refl _ w).alloc (Nat.le_refl _) _;have ks:=Lib.hid (Small_some s Ap Ac Av cp cc cv _ (hs.below hB1.out));have u0:=hX1.out.cell (j:=0) rfl;have u1:=hX1.out.cell (j:=1) rfl;have u2:=hX1.out.cell (j:=2) rfl;have u9:=hX1.out.lt;go_enter Tryz.func16,Tryz.ntmps16
 go_wp2_with fail
 refine ks.out.mono ?_;rintro e w2 ⟨⟨r,rfl,hr⟩,hb⟩;have hB2:=Lib.hid (hB1.out.trans (hb.mono hB1.out.size));replace hr:=Lib.hid hr;clear hb;go_wp2;go_ret;exact BoolPost.mkB rfl hr.out hB2.out
end Sh
end
end Go.Proofs.YtioidbebjgeahaaGreatDoor

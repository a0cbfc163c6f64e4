/- Texts that the proof needs: LawSLeast. -/
import Derived.Deep.RegionHeld3
import Derived.Deep.QuietTactic
import Derived.BigQuiet
import Derived.Test.YtioidbebjgeahaaGreatDoorKtA
import Derived.Test.YtioidbebjgeahaaGreatDoorKtB
import Derived.Test.YtioidbebjgeahaaGreatDoorKtC
import Derived.Test.YtioidbebjgeahaaGreatDoorKtD
import Derived.Test.YtioidbebjgeahaaGreatDoorKtE
import Derived.Test.YtioidbebjgeahaaGreatDoorKtF
import Derived.Test.YtioidbebjgeahaaGreatDoorKtG
import Derived.Test.YtioidbebjgeahaaGreatDoorKtH
import Derived.Test.YtioidbebjgeahaaGreatDoorKtI
import Derived.Test.YtioidbebjgeahaaGreatDoorKtZK
import Derived.Test.YtioidbebjgeahaaGreatDoorKtZL
import Derived.Test.YtioidbebjgeahaaGreatDoorKtZM
import Derived.Test.YtioidbebjgeahaaGreatDoorKtZN
set_option maxHeartbeats 16000000
set_option maxRecDepth 100000
namespace Go.Proofs.YtioidbebjgeahaaGreatDoor
open Go.RowKit Go.Shelf
namespace Sh
open Nt Ci
theorem quiet_skip {c:Bool} {A B:Prop} (h:c=false) (hb:B):if c=true then A else B:=by subst h;exact hb
theorem quiet_take {c:Bool} {A B:Prop} (h:c=true) (ha:A):if c=true then A else B:=by subst h;exact ha
theorem least20_ok (p q:Rat) (hp:OkQ p) (hq:ShortQ q):∃r,(r=true→p≤q)∧∀W,Env W→Calls Tryz.prog 23 #[.agg #[.bool (rq p).1,.string (rq p).2.1,.string (rq p).2.2],.agg #[.bool (rq q).1,.string (rq q).2.1,.string (rq q).2.2]] W fun e w'=>e=.returned (.bool r)∧Below W.heap.size W w':=by
 by_cases h:ShortQ p
 · exact⟨decide (p≤q),of_decide_eq_true,fun W hW=>least20_any p q h hq W hW⟩
 · refine⟨false,(fun e=>by cases e),fun W hW=>?_⟩;have k:=least20_w _ _ _ _ _ _ 0 2 W hW (fun W hW=>Compare_long p q hp hq.ok (fun e=>h e.1) W hW);rw[show (decide ((2:Int)=0)&&decide ((0:Int)≤0))=false by decide]at k;exact k
theorem fit_dg {q:Rat} (h:Fit 6000 q):Dg 4 q:=by
 obtain⟨h1,h2,d,d1,d2,d3⟩:=h;have hd:q.den≤6000:=Nat.le_trans (Nat.le_of_dvd d1 (isI_den d1 d3)) d2;have b:=(Rat.le_iff _ _).1 h2;have c:=(Rat.le_iff _ _).1 h1;have e3:(1:Rat).num=1:=rfl;have e4:(1:Rat).den=1:=rfl;have e5:(-1:Rat).num=-1:=rfl;have e6:(-1:Rat).den=1:=rfl;rw[e3,e4]at b;rw[e5,e6]at c;exact⟨by show q.num.natAbs<10^4;omega,by show q.den<10^4;omega⟩
theorem prop_vals {V:List Raw} (h:PropL V):∃val:Nat→Rat,V=outL V.length val∧∀p,Dg 30 (val p):=by
 refine⟨fun p=>if p<V.length then vq (V.getD p zraw) else 0,?_,fun p=>?_⟩
 · refine List.ext_getElem (outL_length _ _).symm fun i h1 h2=>?_;rw[outL_get,if_pos h1,List.getD_eq_getElem?_getD,List.getElem?_eq_getElem h1];exact(raw_of (h.2 i h1).2).1.symm
 · by_cases c:p<V.length
   · simp only[if_pos c];rw[List.getD_eq_getElem?_getD,List.getElem?_eq_getElem c];have h1:=h.2 p c;have h2:=(raw_of h1.2).1
     show Dg 30 (vq V[p])
     refine dg_of_size (by decide) ?_ ?_
     · have e:T (some (vq V[p]).num.natAbs)=V[p].2.1:=congrArg (·.2.1) h2;rw[e];exact h1.1.1
     · have e:T (some (vq V[p]).den)=V[p].2.2:=congrArg (·.2.2) h2;rw[e];exact h1.1.2
   · simp only[if_neg c];exact⟨by show (0:Nat)<10^30;exact Nat.pow_pos (by decide),by show (1:Nat)<10^30;exact Nat.one_lt_pow (by decide) (by decide)⟩
theorem law20_least (s : SR) (Ap Ac Av Af:Option Addr) (cp cc cv cf:Nat) (F:List Int) (Aw:Option Addr) (cw:Nat) (V:List Raw) (w:World) (hE:Env w) (hs:StIn w s Ap Ac Av) (hF:InInt w Af F) (hFl:F.length≤140737488355328) (hV:InRow w Aw V) (hVl:V.length≤140737488355328) :
 Calls Tryz.prog 6 #[.agg #[.slice Ap s.ps.length cp,.slice Ac s.cap.length cc,.slice Av s.vot.length cv],.slice Af F.length cf,.slice Aw V.length cw] w fun e w'=>e=.returned (.bool true)∧Below w.heap.size w w':=by
 have hX1:Hid (Bk (w.alloc (.cells #[.slice Ap s.ps.length cp,.slice Ac s.cap.length cc,.slice Av s.vot.length cv] 25)) w.heap.size 25 (SC s Ap Ac Av cp cc cv)):=Bk.new w _ _;have hB1:Hid (Below w.heap.size w (w.alloc (.cells #[.slice Ap s.ps.length cp,.slice Ac s.cap.length cc,.slice Av s.vot.length cv] 25))):=(Below.refl _ w).alloc (Nat.le_refl _) _;replace hE:=Lib.hid hE;replace hs:=Lib.hid hs;replace hF:=Lib.hid hF;replace hV:=Lib.hid hV;go_enter Tryz.func6,Tryz.ntmps6
 go_wp2_with fail
 refine(head20_any _ (hE.out.below hB1.out)).mono ?_;rintro e w2 ⟨rfl,hb⟩;have hX2:=Lib.hid (hX1.out.below hb);have hB2:=Lib.hid (hB1.out.trans (hb.mono hB1.out.size));clear hb hX1 hB1;have u0:=hX2.out.cell (j:=0) rfl;have u1:=hX2.out.cell (j:=1) rfl;have u2:=hX2.out.cell (j:=2) rfl;have u9:=hX2.out.lt;have kf:=Lib.hid (few7_some s Ap Ac Av cp cc cv w2 (hs.out.below hB2.out))
 go_wp2_with fail
 refine kf.out.mono ?_;rintro e w3 ⟨⟨r,rfl,hr⟩,hb⟩;have hX3:=Lib.hid (hX2.out.below hb);have hB3:=Lib.hid (hB2.out.trans (hb.mono hB2.out.size));clear hb hX2 hB2;clear u0 u1 u2 u9;clear kf;replace hr:=Lib.hid hr
 cases r with
 | false =>
   go_wp2;go_ret;exact⟨rfl,hB3.out⟩
 | true =>
   obtain⟨hp7,hc30,hv30⟩:=hr.out rfl;clear hr
   by_cases hlF:10<F.length
   · have m1:decide ((10:Int)<(F.length:Int))=true:=decide_eq_true (by omega);have n1:decide (10<F.length)=true:=decide_eq_true (by omega);replace hlF:=Lib.hid hlF;go_wp2;go_ret;exact⟨rfl,hB3.out⟩
   · have m1 : decide ((10 : Int)<(F.length:Int))=false:=decide_eq_false (by omega);have n1:decide (10<F.length)=false:=decide_eq_false (by omega);have u0:=hX3.out.cell (j:=0) rfl;have u1:=hX3.out.cell (j:=1) rfl;have u2:=hX3.out.cell (j:=2) rfl;have u9:=hX3.out.lt;have kp:=Lib.hid (Proper20_any Aw cw V w3 (hV.out.below hB3.out (Nat.le_refl _)) (by omega))
     go_wp2_with fail
     refine kp.out.mono ?_;rintro e w4 ⟨⟨rp,rfl,hr⟩,hb⟩;have hX4:=Lib.hid (hX3.out.below hb);have hB4:=Lib.hid (hB3.out.trans (hb.mono hB3.out.size));clear hb hX3 hB3;clear u0 u1 u2 u9;clear kp;replace hr:=Lib.hid hr
     cases rp with
     | false =>
       go_wp2;go_ret;exact⟨rfl,hB4.out⟩
     | true =>
       have hpr:=hr.out rfl;have hV7:=hpr.1;obtain⟨val,hval,hdg⟩:=prop_vals hpr;replace hdg:=Lib.hid hdg;clear hr hpr;have u0:=hX4.out.cell (j:=0) rfl;have u1:=hX4.out.cell (j:=1) rfl;have u2:=hX4.out.cell (j:=2) rfl;have u9:=hX4.out.lt
       by_cases hln:V.length=s.ps.length
       rotate_left
       · have m2:((V.length:Int) != (s.ps.length:Int))=true:=by rw[bne_iff_ne];omega
         have n2:(V.length != s.ps.length)=true:=by rw[bne_iff_ne];exact hln
         replace hln:=Lib.hid hln;replace hval:=Lib.hid hval;go_wp2;go_ret;exact⟨rfl,hB4.out⟩
       · rw [hln] at hval ⊢;have hv4:Hid (InRow w4 Aw (outL s.ps.length val)):=by have h:=hV.out.below hB4.out (Nat.le_refl _);rw[hval]at h;exact h
         clear hval hln hV7 hV hVl
         go_wp2_with fail
         clear u0 u1 u2 u9;have u0:=hX4.out.cell (j:=0) rfl;have u1:=hX4.out.cell (j:=1) rfl;have u2:=hX4.out.cell (j:=2) rfl;have u9:=hX4.out.lt;have kc:=eff7_any s Ap Ac Av Af cp cc cv cf F w4 (hE.out.below hB4.out) (hs.out.below hB4.out) (by omega) (by omega) (hF.out.below hB4.out) (by omega)
         by_cases hg1:soundB s=true∧listB s.ps.length F=true
         rotate_left
         · have kc2:Hid (Calls Tryz.prog 17 #[.agg #[.slice Ap s.ps.length cp,.slice Ac s.cap.length cc,.slice Av s.vot.length cv],.slice Af F.length cf] w4 fun e w'=>e=.returned (.tuple #[.slice none 0 0,.int .i64 1])∧Below w4.heap.size w4 w'):=kc.mono fun e w' h=>⟨by have h1:=h.1;rw[if_neg hg1]at h1;exact h1,h.2⟩;clear kc;replace hg1:=Lib.hid hg1
           go_wp2_with fail
           refine kc2.out.mono ?_;rintro e w5 ⟨rfl,hb⟩;have hX5:=Lib.hid (hX4.out.below hb);have hB5:=Lib.hid (hB4.out.trans (hb.mono hB4.out.size));have hv5:=Lib.hid (hv4.out.below hb (Nat.le_refl _));clear hb hX4 hB4 hv4;clear u0 u1 u2 u9;clear kc2 ;go_wp2;go_ret;exact⟨rfl,hB5.out⟩
         · have kc2 : Hid (Calls Tryz.prog 17 #[.agg #[.slice Ap s.ps.length cp,.slice Ac s.cap.length cc,.slice Av s.vot.length cv],.slice Af F.length cf] w4 fun e w'=>(∃b,e=.returned (.tuple #[.slice (some ⟨b,0,none⟩) s.ps.length s.ps.length,.int .i64 0])∧RowB w' b s.ps.length fun p=>rq (ev s F p))∧Below w4.heap.size w4 w'):=kc.mono fun e w' h=>⟨by have h1:=h.1;rw[if_pos hg1]at h1;obtain⟨b,e1,_,e2⟩:=h1;exact⟨b,e1,e2⟩,h.2⟩;clear kc;replace hg1:=Lib.hid hg1
           go_wp2_with fail
           refine kc2.out.mono ?_;rintro e w5 ⟨⟨eb1,rfl,hRow1⟩,hb⟩;have hX5:=Lib.hid (hX4.out.below hb);have hB5:=Lib.hid (hB4.out.trans (hb.mono hB4.out.size));have hv5:=Lib.hid (hv4.out.below hb (Nat.le_refl _));clear hb hX4 hB4 hv4;have hRow15:=Lib.hid hRow1;clear hRow1;clear u0 u1 u2 u9;clear kc2 ;clear m1 n1;have hsd:=Lib.hid hg1.out.1;have hmy:=few_many F hsd.out (by omega);have hEf:=Lib.hid (ev_eff hsd.out hmy);obtain⟨D,hvals⟩:=ev_vals (F:=F) hsd.out hmy;have hL:=Lib.hid (caps_of hsd.out);replace hvals:=Lib.hid hvals;replace hmy:=Lib.hid hmy;have hF0:Hid (∀y,y∈F→0≤y):=fun y hy=>by obtain⟨i,hi,rfl⟩:=List.getElem_of_mem hy;exact(lst_at hg1.out.2 hi).1.1
           have hlist:Hid (∀p:Nat,p∈toN F↔(p:Int)∈F):=fun p=>by
            unfold toN;rw[List.mem_map];exact⟨fun⟨y,hy,e⟩=>by rw[←e,Int.toNat_of_nonneg (hF0.out y hy)];exact hy,fun h=>⟨(p:Int),h,by simp⟩⟩
           have hshv:Hid (∀p,ShortQ (val p)):=fun p=>(hdg.out p).short (by decide);have s0:Hid (ShortQ 0):=⟨L1_pos,Nat.lt_of_lt_of_le (by decide:1<6000) (Nat.le_of_lt pow1)⟩;have s1:Hid (ShortQ 1):=⟨Nat.lt_of_lt_of_le (by decide:1<6000) (Nat.le_of_lt pow1),Nat.lt_of_lt_of_le (by decide:1<6000) (Nat.le_of_lt pow1)⟩;have kl:Hid (∀(x y:Rat) (W:World),ShortQ x→ShortQ y→Env W→Calls Tryz.prog 23 #[.agg #[.bool (rq (x)).1,.string (rq (x)).2.1,.string (rq (x)).2.2],.agg #[.bool (rq (y)).1,.string (rq (y)).2.1,.string (rq (y)).2.2]] W fun e w'=>e=.returned (.bool (decide (x≤y)))∧Below W.heap.size W w'):=fun x y W hx hy hW=>least20_any x y hx hy W hW;have u0:=hX5.out.cell (j:=0) rfl;have u9:=hX5.out.lt;have k0:Hid (∀W,Env W→Calls Tryz.prog 20 #[.int .i64 0,.int .i64 1] W fun e w'=>e=.returned (.agg #[.bool (rq (0)).1,.string (rq (0)).2.1,.string (rq (0)).2.2])∧Below W.heap.size W w'):=fun W hW=>by have h:=of20_any 0 1 W hW (by omega) (by omega) (by omega) (by omega) (by omega);rw[ofQ_one',show ((0:Int):Rat)=0 from rfl]at h;exact h
           have k1:Hid (∀W,Env W→Calls Tryz.prog 20 #[.int .i64 1,.int .i64 1] W fun e w'=>e=.returned (.agg #[.bool (rq (1)).1,.string (rq (1)).2.1,.string (rq (1)).2.2])∧Below W.heap.size W w'):=fun W hW=>by have h:=of20_any 1 1 W hW (by omega) (by omega) (by omega) (by omega) (by omega);rw[ofQ_one',show ((1:Int):Rat)=1 from rfl]at h;exact h
           go_wp2_with fail
           refine(k0.out _ (hE.out.below hB5.out)).mono ?_;rintro e w6 ⟨rfl,hb⟩;have hX6:=Lib.hid (hX5.out.below hb);have hB6:=Lib.hid (hB5.out.trans (hb.mono hB5.out.size));have hv6:=Lib.hid (hv5.out.below hb (Nat.le_refl _));have hRow16:=Lib.hid (hRow15.out.below hb hRow15.out.lt);clear hb hX5 hB5 hv5 hRow15;clear u0 u9
           go_wp2_with fail
           refine(k1.out _ (hE.out.below hB6.out)).mono ?_;rintro e w7 ⟨rfl,hb⟩;have hX7:=Lib.hid (hX6.out.below hb);have hB7:=Lib.hid (hB6.out.trans (hb.mono hB6.out.size));have hv7:=Lib.hid (hv6.out.below hb (Nat.le_refl _));have hRow17:=Lib.hid (hRow16.out.below hb hRow16.out.lt);clear hb hX6 hB6 hv6 hRow16;clear k0 k1;obtain⟨w0,hw0⟩:∃W,W=((w7.alloc (.cells #[.bool (rq (0)).1,.string (rq (0)).2.1,.string (rq (0)).2.2] 37)).alloc (.cells #[.bool (rq (1)).1,.string (rq (1)).2.1,.string (rq (1)).2.2] 37)):=⟨_,rfl⟩;obtain⟨zb,hzb⟩:∃x,x=w7.heap.size:=⟨_,rfl⟩;have hB0:Hid (Below w.heap.size w w0):=by rw[hw0];exact(hB7.out.alloc hB7.out.size _).alloc (by have:=hB7.out.size;simp;omega) _
           have hX0:Hid (Bk w0 w.heap.size 25 (SC s Ap Ac Av cp cc cv)):=by rw[hw0];exact(hX7.out.alloc _).alloc _
           have hE0:Hid (RowB w0 eb1 s.ps.length fun p=>rq (ev s F p)):=by rw[hw0];exact(hRow17.out.alloc _).alloc _
           have hv0:Hid (InRow w0 Aw (outL s.ps.length val)):=by rw[hw0];exact(hv7.out.below ((Below.refl _ _).alloc (Nat.le_refl _) _) (Nat.le_refl _)).below ((Below.refl _ _).alloc (Nat.le_refl _) _) (Nat.le_refl _)
           have hZ0:Hid (Bk w0 zb 37 [.bool (rq (0)).1,.string (rq (0)).2.1,.string (rq (0)).2.2]):=by rw[hw0,hzb];exact(Bk.new _ _ _).alloc _
           have hO0:Hid (Bk w0 (zb+1) 37 [.bool (rq (1)).1,.string (rq (1)).2.1,.string (rq (1)).2.2]):=by rw[hw0,hzb];have h:=Bk.new (w7.alloc (.cells #[.bool (rq (0)).1,.string (rq (0)).2.1,.string (rq (0)).2.2] 37)) 37 [.bool (rq (1)).1,.string (rq (1)).2.1,.string (rq (1)).2.2];rw[World.size_alloc]at h;exact h
           go_wp2_with fail
           (try rw[←hw0])
           (try rw[←hzb])
           replace hw0:=Lib.hid hw0;replace hzb:=Lib.hid hzb;clear hX7 hB7 hRow17 hv7;have hK0:Hid (Below w0.heap.size w0 w0):=Below.refl _ _;have hI0:Hid (∀j,j<0→0≤val j∧(j∈toN F→1≤val j)∧(j∉toN F→lsum j val (capL s.cap)≤val j)):=fun j hj=>absurd hj (Nat.not_lt_zero _)
           go_loopw [12] (fun ix wr=>∃(p:Nat),p≤s.ps.length∧ix=.int .i64 (p:Int)∧Hid (∀j,j<p→0≤val j∧(j∈toN F→1≤val j)∧(j∉toN F→lsum j val (capL s.cap)≤val j))∧Hid (Below w0.heap.size w0 wr)) (fun ix _=>s.ps.length-(intOf ix).toNat)
           case atStart=>exact⟨0,Nat.zero_le _,rfl,hI0,hK0⟩
           case round =>
            clear hK0 hI0;obtain⟨p,hp,rfl,hI,hK⟩:=hrel;obtain⟨wp,rfl⟩:∃z,z=wr:=⟨_,rfl⟩;have hBp:=Lib.hid (hB0.out.trans (hK.out.mono hB0.out.size))
            by_cases hpn:p<s.ps.length
            · have hXp:=Lib.hid (hX0.out.below hK.out);have u0:=hXp.out.cell (j:=0) rfl;have u1:=hXp.out.cell (j:=1) rfl;have u2:=hXp.out.cell (j:=2) rfl;have u9:=hXp.out.lt;have j0:(0:Int)≤(p:Int):=by omega
              have j1:(p:Int)<(s.ps.length:Int):=by omega
              have ks:Hid (Calls Tryz.prog 24 #[.agg #[.slice Ap s.ps.length cp,.slice Ac s.cap.length cc,.slice Av s.vot.length cv],.slice Aw s.ps.length cw,.int .i64 (p:Int)] wp fun e w'=>(∃gx nx dx ok,e=.returned (.tuple #[.agg #[.bool gx,.string nx,.string dx],.bool ok])∧(ok=true→(gx,nx,dx)=rq (lsum p val (capL s.cap)))∧(ok=true→OkQ (lsum p val (capL s.cap))))∧Below wp.heap.size wp w'):=(sum20_all s Ap Ac Av Aw cp cc cv cw p val wp (hE.out.below hBp.out) (hs.out.below hBp.out).cap hsd.out (by omega) (hv0.out.below hK.out (Nat.le_refl _)) (fun x _=>hshv.out x) (fun k h=>((fit_dg (part_fit hL.out h)).mul (hdg.out _)).short (by decide))).mono fun _ _ ⟨⟨gx,nx,dx,ok,h1,h2,_⟩,hb⟩=>⟨⟨gx,nx,dx,ok,h1,fun h=>(h2 h).1,fun h=>(h2 h).2⟩,hb⟩
              go_wp2_with fail
              refine ks.out.mono ?_;rintro e w9 ⟨⟨gx,nx,dx,ok,rfl,hq1,hq2⟩,hb⟩;have hB9:=Lib.hid (hBp.out.trans (hb.mono hBp.out.size));have hK9:=Lib.hid (hK.out.trans (hb.mono hK.out.size));clear hb ks u0 u1 u2 u9 hXp hBp hK;have hK10:Hid (Below w0.heap.size w0 (w9.alloc (.cells #[.bool gx,.string nx,.string dx] 37))):=hK9.out.alloc hK9.out.size _;have hB10:Hid (Below w.heap.size w (w9.alloc (.cells #[.bool gx,.string nx,.string dx] 37))):=hB9.out.alloc hB9.out.size _;obtain⟨w10,hw10⟩:∃W,W=(w9.alloc (.cells #[.bool gx,.string nx,.string dx] 37)):=⟨_,rfl⟩;obtain⟨vb,hvb⟩:∃x,x=w9.heap.size:=⟨_,rfl⟩;have hV10:Hid (Bk w10 vb 37 [.bool gx,.string nx,.string dx]):=by rw[hw10,hvb];exact Bk.new _ _ _
              rw[←hw10]at hK10 hB10
              go_wp2_with fail
              (try rw[←hw10])
              (try rw[←hvb])
              replace hw10:=Lib.hid hw10;replace hvb:=Lib.hid hvb;clear hK9 hB9;have hv10:=hv0.out.below hK10.out (Nat.le_refl _);obtain⟨vvb,vo,rfl,vl,vc⟩:=hv10 (by rw[outL_length];omega);obtain⟨e0,e1,e2⟩:=vc p (by rw[outL_length];omega);rw[outL_get]at e0 e1 e2;clear vc hv10;have hZp:=hZ0.out.below hK10.out;have hOp:=hO0.out.below hK10.out;have z0:=hZp.cell (j:=0) rfl;have z1:=hZp.cell (j:=1) rfl;have z2:=hZp.cell (j:=2) rfl;have z9:=hZp.lt;have o0:=hOp.cell (j:=0) rfl;have o1:=hOp.cell (j:=1) rfl;have o2:=hOp.cell (j:=2) rfl;have o9:=hOp.lt;have x0:=hV10.out.cell (j:=0) rfl;have x1:=hV10.out.cell (j:=1) rfl;have x2:=hV10.out.cell (j:=2) rfl;have x9:=hV10.out.lt;clear hZp hOp hV10
              have hNx:Hid ((0≤val p∧(p∈toN F→1≤val p)∧(p∉toN F→lsum p val (capL s.cap)≤val p))→(∀j,j<p+1→0≤val j∧(j∈toN F→1≤val j)∧(j∉toN F→lsum j val (capL s.cap)≤val j))):=fun h j hj=>by
               by_cases c:j=p
               · subst c;exact h
               · exact hI.out j (by omega)
              have hmq:=hlist.out p;have hqs:=Lib.hid (hshv.out p);obtain⟨q,hq⟩:∃q,q=val p:=⟨_,rfl⟩;rw[←hq]at e0 e1 e2 hNx hqs;clear hq hI;have HS:Hid (∀W,Below w10.heap.size w10 W→(fun W=>W.cell? ⟨zb,0,none⟩=some (.bool (rq (0)).1)∧W.cell? ⟨zb,1,none⟩=some (.string (rq (0)).2.1)∧W.cell? ⟨zb,2,none⟩=some (.string (rq (0)).2.2)∧W.cell? ⟨zb+1,0,none⟩=some (.bool (rq (1)).1)∧W.cell? ⟨zb+1,1,none⟩=some (.string (rq (1)).2.1)∧W.cell? ⟨zb+1,2,none⟩=some (.string (rq (1)).2.2)∧W.cell? ⟨vvb,vo+p*3,none⟩=some (.bool (rq (q)).1)∧W.cell? ⟨vvb,vo+p*3+1,none⟩=some (.string (rq (q)).2.1)∧W.cell? ⟨vvb,vo+p*3+2,none⟩=some (.string (rq (q)).2.2)∧W.cell? ⟨vb,0,none⟩=some (.bool gx)∧W.cell? ⟨vb,1,none⟩=some (.string nx)∧W.cell? ⟨vb,2,none⟩=some (.string dx)) W):=fun W h=>⟨(h.cell (p:=⟨zb,0,none⟩) z9).trans z0,(h.cell (p:=⟨zb,1,none⟩) z9).trans z1,(h.cell (p:=⟨zb,2,none⟩) z9).trans z2,(h.cell (p:=⟨zb+1,0,none⟩) o9).trans o0,(h.cell (p:=⟨zb+1,1,none⟩) o9).trans o1,(h.cell (p:=⟨zb+1,2,none⟩) o9).trans o2,(h.cell (p:=⟨vvb,vo+p*3,none⟩) vl).trans e0,(h.cell (p:=⟨vvb,vo+p*3+1,none⟩) vl).trans e1,(h.cell (p:=⟨vvb,vo+p*3+2,none⟩) vl).trans e2,(h.cell (p:=⟨vb,0,none⟩) x9).trans x0,(h.cell (p:=⟨vb,1,none⟩) x9).trans x1,(h.cell (p:=⟨vb,2,none⟩) x9).trans x2⟩;have hE10:Hid (∀W,Below w10.heap.size w10 W→Env W):=fun W h=>hE.out.below (hB10.out.trans (h.mono hB10.out.size));have kh:Hid (∀W,Below w10.heap.size w10 W→Calls Tryz.prog 25 #[.slice Af F.length cf,.int .i64 (p:Int)] W fun e w'=>e=.returned (.bool (decide ((p:Int)∈F)))∧w'=W):=fun W h=>(has20_any Af cf F (p:Int) W (hF.out.below (hB10.out.trans (h.mono hB10.out.size))) hFl).mono fun e w' h=>⟨h.1,by first | exact h.2 | exact h.2.symm⟩;clear z0 z1 z2 z9 o0 o1 o2 o9 e0 e1 e2 vl x0 x1 x2 x9
              cases ok with
              | false =>
                clear hq1 hq2;refine region_below (by kernel_rfl) (by kernel_rfl) ?_
                repeat (
                 with_reducible refine wpQuiet_step (fun K hK=>?_)
                 first
                  | (refine quiet_skip (by rfl) ?_;refine hK _ ?_;clear hK K;(try simp only[Act.put,List.setIfInBounds_toArray,List.set_cons_zero,List.set_cons_succ]))
                  | (refine quiet_take (by rfl) ?_
                     go_simp;apply Exists.intro;refine⟨fun W hW=>?_,hK _ ?_⟩
                     first
                      | (obtain⟨q1,q2,q3,q4,q5,q6,q7,q8,q9,q10,q11,q12⟩:=HS.out W hW;go_simp<;>with_reducible rfl)
                     clear hK K))
                refine wpQuiet_nil ?_;intro w11 hbz;have hB11:Hid (Below w.heap.size w w11):=hB10.out.trans (hbz.mono hB10.out.size);have hK11:Hid (Below w0.heap.size w0 w11):=hK10.out.trans (hbz.mono hK10.out.size);clear hbz HS hE10 kh hB10 hK10;go_wp2;go_ret;exact⟨rfl,hB11.out⟩
              | true =>
                obtain⟨v,hvv⟩:∃v,v=lsum p val (capL s.cap):=⟨_,rfl⟩;have hq3:=hq1 rfl;have hsv:=Lib.hid (hq2 rfl);rw[←hvv]at hq3 hsv hNx;obtain⟨rfl,rfl,rfl⟩:gx=(rq v).1∧nx=(rq v).2.1∧dx=(rq v).2.2:=⟨congrArg (·.1) hq3,congrArg (·.2.1) hq3,congrArg (·.2.2) hq3⟩;replace hvv:=Lib.hid hvv;clear hq1 hq2 hq3
                by_cases hckl0:0≤q
                rotate_left
                · skip
                  have kl0:Hid (∀W,Env W→Calls Tryz.prog 23 #[.agg #[.bool (rq (0)).1,.string (rq (0)).2.1,.string (rq (0)).2.2],.agg #[.bool (rq (q)).1,.string (rq (q)).2.1,.string (rq (q)).2.2]] W fun e w'=>e=.returned (.bool false)∧Below W.heap.size W w'):=fun W hW=>by have h:=kl.out (0) (q) W s0.out hqs.out hW;rw[decide_eq_false hckl0]at h;exact h
                  replace hckl0:=Lib.hid hckl0;clear hNx hmq;refine region_below (by kernel_rfl) (by kernel_rfl) ?_
                  repeat (
                   with_reducible refine wpQuiet_step (fun K hK=>?_)
                   first
                    | (refine quiet_skip (by rfl) ?_;refine hK _ ?_;clear hK K;(try simp only[Act.put,List.setIfInBounds_toArray,List.set_cons_zero,List.set_cons_succ]))
                    | (refine quiet_take (by rfl) ?_
                       go_simp;apply Exists.intro;refine⟨fun W hW=>?_,hK _ ?_⟩
                       first
                        | (with_reducible exact quiet_below hW (kl0.out W (hE10.out W hW)))
                        | (obtain⟨q1,q2,q3,q4,q5,q6,q7,q8,q9,q10,q11,q12⟩:=HS.out W hW;go_simp<;>with_reducible rfl)
                       clear hK K))
                  refine wpQuiet_nil ?_;intro w11 hbz;have hB11:Hid (Below w.heap.size w w11):=hB10.out.trans (hbz.mono hB10.out.size);have hK11:Hid (Below w0.heap.size w0 w11):=hK10.out.trans (hbz.mono hK10.out.size);clear hbz HS hE10 kh hB10 hK10;go_wp2;go_ret;exact⟨rfl,hB11.out⟩
                · skip
                  have kl0:Hid (∀W,Env W→Calls Tryz.prog 23 #[.agg #[.bool (rq (0)).1,.string (rq (0)).2.1,.string (rq (0)).2.2],.agg #[.bool (rq (q)).1,.string (rq (q)).2.1,.string (rq (q)).2.2]] W fun e w'=>e=.returned (.bool true)∧Below W.heap.size W w'):=fun W hW=>by have h:=kl.out (0) (q) W s0.out hqs.out hW;rw[decide_eq_true hckl0]at h;exact h
                  have hc0:=Lib.hid hckl0;clear hckl0
                  by_cases hm:(p:Int)∈F
                  · skip
                    rw[decide_eq_true hm]at kh;have hm2:=Lib.hid (hmq.2 hm);clear hmq;replace hm:=Lib.hid hm
                    by_cases hckl1:1≤q
                    rotate_left
                    · skip
                      have kl1:Hid (∀W,Env W→Calls Tryz.prog 23 #[.agg #[.bool (rq (1)).1,.string (rq (1)).2.1,.string (rq (1)).2.2],.agg #[.bool (rq (q)).1,.string (rq (q)).2.1,.string (rq (q)).2.2]] W fun e w'=>e=.returned (.bool false)∧Below W.heap.size W w'):=fun W hW=>by have h:=kl.out (1) (q) W s1.out hqs.out hW;rw[decide_eq_false hckl1]at h;exact h
                      replace hckl1:=Lib.hid hckl1;clear hNx;refine region_below (by kernel_rfl) (by kernel_rfl) ?_
                      repeat (
                       with_reducible refine wpQuiet_step (fun K hK=>?_)
                       first
                        | (refine quiet_skip (by rfl) ?_;refine hK _ ?_;clear hK K;(try simp only[Act.put,List.setIfInBounds_toArray,List.set_cons_zero,List.set_cons_succ]))
                        | (refine quiet_take (by rfl) ?_
                           go_simp;apply Exists.intro;refine⟨fun W hW=>?_,hK _ ?_⟩
                           first
                            | (with_reducible exact quiet_below hW (kl0.out W (hE10.out W hW)))
                            | (with_reducible exact quiet_below hW (kl1.out W (hE10.out W hW)))
                            | (with_reducible exact quiet_same hW (kh.out W hW))
                            | (obtain⟨q1,q2,q3,q4,q5,q6,q7,q8,q9,q10,q11,q12⟩:=HS.out W hW;go_simp<;>with_reducible rfl)
                           clear hK K))
                      refine wpQuiet_nil ?_;intro w11 hbz;have hB11:Hid (Below w.heap.size w w11):=hB10.out.trans (hbz.mono hB10.out.size);have hK11:Hid (Below w0.heap.size w0 w11):=hK10.out.trans (hbz.mono hK10.out.size);clear hbz HS hE10 kh hB10 hK10;go_wp2;go_ret;exact⟨rfl,hB11.out⟩
                    · skip
                      have kl1:Hid (∀W,Env W→Calls Tryz.prog 23 #[.agg #[.bool (rq (1)).1,.string (rq (1)).2.1,.string (rq (1)).2.2],.agg #[.bool (rq (q)).1,.string (rq (q)).2.1,.string (rq (q)).2.2]] W fun e w'=>e=.returned (.bool true)∧Below W.heap.size W w'):=fun W hW=>by have h:=kl.out (1) (q) W s1.out hqs.out hW;rw[decide_eq_true hckl1]at h;exact h
                      have hI2:=Lib.hid (hNx.out ⟨hc0.out,fun _=>hckl1,fun h=>absurd hm2.out h⟩);replace hckl1:=Lib.hid hckl1;clear hNx;refine region_below (by kernel_rfl) (by kernel_rfl) ?_
                      repeat (
                       with_reducible refine wpQuiet_step (fun K hK=>?_)
                       first
                        | (refine quiet_skip (by rfl) ?_;refine hK _ ?_;clear hK K;(try simp only[Act.put,List.setIfInBounds_toArray,List.set_cons_zero,List.set_cons_succ]))
                        | (refine quiet_take (by rfl) ?_
                           go_simp;apply Exists.intro;refine⟨fun W hW=>?_,hK _ ?_⟩
                           first
                            | (with_reducible exact quiet_below hW (kl0.out W (hE10.out W hW)))
                            | (with_reducible exact quiet_below hW (kl1.out W (hE10.out W hW)))
                            | (with_reducible exact quiet_same hW (kh.out W hW))
                            | (obtain⟨q1,q2,q3,q4,q5,q6,q7,q8,q9,q10,q11,q12⟩:=HS.out W hW;go_simp<;>with_reducible rfl)
                           clear hK K))
                      refine wpQuiet_nil ?_;intro w11 hbz;have hB11:Hid (Below w.heap.size w w11):=hB10.out.trans (hbz.mono hB10.out.size);have hK11:Hid (Below w0.heap.size w0 w11):=hK10.out.trans (hbz.mono hK10.out.size);clear hbz HS hE10 kh hB10 hK10;go_wp2;exact⟨⟨p+1,by omega,by go_num,hI2,hK11⟩,by simp only[intOf];omega⟩
                  · skip
                    rw[decide_eq_false hm]at kh;have hm2:=Lib.hid (fun h=>hm (hmq.1 h));clear hmq;replace hm:=Lib.hid hm;obtain⟨r2,hr2,kl2⟩:=least20_ok v q hsv.out hqs.out;replace kl2:=Lib.hid kl2
                    cases r2 with
                    | false =>
                      clear hNx hr2;refine region_below (by kernel_rfl) (by kernel_rfl) ?_
                      repeat (
                       with_reducible refine wpQuiet_step (fun K hK=>?_)
                       first
                        | (refine quiet_skip (by rfl) ?_;refine hK _ ?_;clear hK K;(try simp only[Act.put,List.setIfInBounds_toArray,List.set_cons_zero,List.set_cons_succ]))
                        | (refine quiet_take (by rfl) ?_
                           go_simp;apply Exists.intro;refine⟨fun W hW=>?_,hK _ ?_⟩
                           first
                            | (with_reducible exact quiet_below hW (kl0.out W (hE10.out W hW)))
                            | (with_reducible exact quiet_below hW (kl2.out W (hE10.out W hW)))
                            | (with_reducible exact quiet_same hW (kh.out W hW))
                            | (obtain⟨q1,q2,q3,q4,q5,q6,q7,q8,q9,q10,q11,q12⟩:=HS.out W hW;go_simp<;>with_reducible rfl)
                           clear hK K))
                      refine wpQuiet_nil ?_;intro w11 hbz;have hB11:Hid (Below w.heap.size w w11):=hB10.out.trans (hbz.mono hB10.out.size);have hK11:Hid (Below w0.heap.size w0 w11):=hK10.out.trans (hbz.mono hK10.out.size);clear hbz HS hE10 kh hB10 hK10;go_wp2;go_ret;exact⟨rfl,hB11.out⟩
                    | true =>
                      have hI2:=Lib.hid (hNx.out ⟨hc0.out,fun h=>absurd h hm2.out,fun _=>hr2 rfl⟩);clear hNx hr2;refine region_below (by kernel_rfl) (by kernel_rfl) ?_
                      repeat (
                       with_reducible refine wpQuiet_step (fun K hK=>?_)
                       first
                        | (refine quiet_skip (by rfl) ?_;refine hK _ ?_;clear hK K;(try simp only[Act.put,List.setIfInBounds_toArray,List.set_cons_zero,List.set_cons_succ]))
                        | (refine quiet_take (by rfl) ?_
                           go_simp;apply Exists.intro;refine⟨fun W hW=>?_,hK _ ?_⟩
                           first
                            | (with_reducible exact quiet_below hW (kl0.out W (hE10.out W hW)))
                            | (with_reducible exact quiet_below hW (kl2.out W (hE10.out W hW)))
                            | (with_reducible exact quiet_same hW (kh.out W hW))
                            | (obtain⟨q1,q2,q3,q4,q5,q6,q7,q8,q9,q10,q11,q12⟩:=HS.out W hW;go_simp<;>with_reducible rfl)
                           clear hK K))
                      refine wpQuiet_nil ?_;intro w11 hbz;have hB11:Hid (Below w.heap.size w w11):=hB10.out.trans (hbz.mono hB10.out.size);have hK11:Hid (Below w0.heap.size w0 w11):=hK10.out.trans (hbz.mono hK10.out.size);clear hbz HS hE10 kh hB10 hK10;go_wp2;exact⟨⟨p+1,by omega,by go_num,hI2,hK11⟩,by simp only[intOf];omega⟩
            · skip
              obtain rfl:p=s.ps.length:=by omega
              have hle:=Lib.hid (hEf.out.least hL.out (v:=val) (fun p hp=>(hI.out p hp).1) (fun p hp=>(hI.out p hp).2.1) (fun p hp=>(hI.out p hp).2.2));clear hI
              go_wp2_with fail
              have hK1:Hid (Below wp.heap.size wp wp):=Below.refl _ _
              go_loopw [15] (fun ix wr=>∃(p:Nat),p≤s.ps.length∧ix=.int .i64 (p:Int)∧Hid (Below wp.heap.size wp wr)) (fun ix _=>s.ps.length-(intOf ix).toNat)
              case atStart=>exact⟨0,Nat.zero_le _,rfl,hK1⟩
              case round =>
               clear hK1;obtain⟨p,hp,rfl,hK2⟩:=hrel;obtain⟨wq,rfl⟩:∃z,z=wr:=⟨_,rfl⟩;have hBq:=Lib.hid (hBp.out.trans (hK2.out.mono hBp.out.size));have hKq:=Lib.hid (hK.out.trans (hK2.out.mono hK.out.size))
               by_cases hpn:p<s.ps.length
               · skip
                 obtain⟨x0,x1,x2⟩:=(hE0.out.below hKq.out hE0.out.lt).cell hpn;have x9:=(hE0.out.below hKq.out hE0.out.lt).lt;have hvq:=hv0.out.below hKq.out (Nat.le_refl _);obtain⟨vvb,vo,rfl,vl,vc⟩:=hvq (by rw[outL_length];omega);obtain⟨e0,e1,e2⟩:=vc p (by rw[outL_length];omega);rw[outL_get]at e0 e1 e2;clear vc hvq;have hlp:=hle.out p hpn;have sx:=hvals.out.short p;have sy:=hshv.out p;obtain⟨x,hx⟩:∃x,x=ev s F p:=⟨_,rfl⟩;obtain⟨q,hq⟩:∃q,q=val p:=⟨_,rfl⟩;rw[←hx]at x0 x1 x2 hlp sx;rw[←hq]at e0 e1 e2 hlp sy;clear hx hq;have kl0:Hid (∀W,Env W→Calls Tryz.prog 23 #[.agg #[.bool (rq (x)).1,.string (rq (x)).2.1,.string (rq (x)).2.2],.agg #[.bool (rq (q)).1,.string (rq (q)).2.1,.string (rq (q)).2.2]] W fun e w'=>e=.returned (.bool true)∧Below W.heap.size W w'):=fun W hW=>by have h:=kl.out x q W sx sy hW;rw[decide_eq_true hlp]at h;exact h
                 have j0:(0:Int)≤(p:Int):=by omega
                 have j1:(p:Int)<(s.ps.length:Int):=by omega
                 clear hlp sx sy;have HS:Hid (∀W,Below wq.heap.size wq W→(fun W=>W.cell? ⟨eb1,p*3,none⟩=some (.bool (rq (x)).1)∧W.cell? ⟨eb1,p*3+1,none⟩=some (.string (rq (x)).2.1)∧W.cell? ⟨eb1,p*3+2,none⟩=some (.string (rq (x)).2.2)∧W.cell? ⟨vvb,vo+p*3,none⟩=some (.bool (rq (q)).1)∧W.cell? ⟨vvb,vo+p*3+1,none⟩=some (.string (rq (q)).2.1)∧W.cell? ⟨vvb,vo+p*3+2,none⟩=some (.string (rq (q)).2.2)) W):=fun W h=>⟨(h.cell (p:=⟨eb1,p*3,none⟩) x9).trans x0,(h.cell (p:=⟨eb1,p*3+1,none⟩) x9).trans x1,(h.cell (p:=⟨eb1,p*3+2,none⟩) x9).trans x2,(h.cell (p:=⟨vvb,vo+p*3,none⟩) vl).trans e0,(h.cell (p:=⟨vvb,vo+p*3+1,none⟩) vl).trans e1,(h.cell (p:=⟨vvb,vo+p*3+2,none⟩) vl).trans e2⟩;have hE10:Hid (∀W,Below wq.heap.size wq W→Env W):=fun W h=>hE.out.below (hBq.out.trans (h.mono hBq.out.size));clear x0 x1 x2 x9 e0 e1 e2 vl
                 go_wp2_with fail
                 refine region_below (by kernel_rfl) (by kernel_rfl) ?_
                 repeat (
                  with_reducible refine wpQuiet_step (fun K hK=>?_)
                  first
                   | (refine quiet_skip (by rfl) ?_;refine hK _ ?_;clear hK K;(try simp only[Act.put,List.setIfInBounds_toArray,List.set_cons_zero,List.set_cons_succ]))
                   | (refine quiet_take (by rfl) ?_
                      go_simp;apply Exists.intro;refine⟨fun W hW=>?_,hK _ ?_⟩
                      first
                       | (with_reducible exact quiet_below hW (kl0.out W (hE10.out W hW)))
                       | (obtain⟨q1,q2,q3,q4,q5,q6⟩:=HS.out W hW;go_simp<;>with_reducible rfl)
                      clear hK K))
                 refine wpQuiet_nil ?_;intro wf hbz;have hKf:Hid (Below wp.heap.size wp wf):=hK2.out.trans (hbz.mono hK2.out.size);clear HS hE10 kl0 hbz hBq hKq;go_wp2;exact⟨⟨p+1,by omega,by go_num,hKf⟩,by simp only[intOf];omega⟩
               · skip
                 obtain rfl:p=s.ps.length:=by omega
                 go_wp2;go_ret;exact⟨rfl,hBq.out⟩
end Sh
end Go.Proofs.YtioidbebjgeahaaGreatDoor

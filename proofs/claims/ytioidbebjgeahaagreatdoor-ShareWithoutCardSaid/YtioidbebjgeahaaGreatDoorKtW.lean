/- Texts that the proof needs: LawSWithout. -/
import Derived.Deep.RegionHeld3
import Derived.Deep.QuietTactic
import Derived.BigQuiet
import Derived.Test.YtioidbebjgeahaaGreatDoorKtA
import Derived.Test.YtioidbebjgeahaaGreatDoorKtB
import Derived.Test.YtioidbebjgeahaaGreatDoorKtC
import Derived.Test.YtioidbebjgeahaaGreatDoorKtD
import Derived.Test.YtioidbebjgeahaaGreatDoorKtE
import Derived.Test.YtioidbebjgeahaaGreatDoorKtF
import Derived.Test.YtioidbebjgeahaaGreatDoorKtG
import Derived.Test.YtioidbebjgeahaaGreatDoorKtH
import Derived.Test.YtioidbebjgeahaaGreatDoorKtI
import Derived.Test.YtioidbebjgeahaaGreatDoorKtU
import Derived.Test.YtioidbebjgeahaaGreatDoorKtV
set_option maxHeartbeats 16000000
set_option maxRecDepth 100000
namespace Go.Proofs.YtioidbebjgeahaaGreatDoor
open Go.RowKit Go.Shelf
namespace Sh
open Nt Ci
section
variable {l l':List Lk} {n k:Nat}
theorem riseTransS {a b c:Lk} (h1:Rise a b) (h2:Rise b c):Rise a c:=by
 unfold Rise at *;omega
theorem goodRiseS (h:goodB n l=true):l.Pairwise Rise:=by
 refine List.pairwise_iff_getElem.2 fun i j hi hj hij=>?_
 induction j with
 | zero=>omega
 | succ j ih =>
   have h1:=(good_at h hj).2.1 (by omega);simp only[Nat.add_sub_cancel]at h1
   by_cases e:i=j
   · subst e;exact h1
   · exact riseTransS (ih (by omega) (by omega)) h1
theorem sum_subS {a b:List Nat} (h:a.Sublist b):a.sum≤b.sum:=by
 induction h with
 | slnil=>exact Nat.le_refl _
 | cons x _ ih=>rw[List.sum_cons];omega
 | cons_cons x _ ih=>rw[List.sum_cons,List.sum_cons];omega
theorem sumU_allS (h:goodB n l=true) (c:Int):∀k,k≤l.length→sumU (l.take k) c≤6000:=by
 intro k
 induction k with
 | zero=>intro _;simp[sumU]
 | succ k ih =>
   intro hk
   by_cases e:(l[k]'(by omega)).1=c
   · rw[←e];exact(good_at h (by omega)).2.2
   · have h1:=ih (by omega);unfold sumU at h1 ⊢;rw[List.take_succ_eq_append_getElem (by omega),List.filter_append,List.filter_cons,if_neg (by simpa using e)]
     simpa using h1
theorem good_subS (h:goodB n l=true) (hs:l'.Sublist l):goodB n l'=true:=by
 refine good_all fun i hi=>⟨?_,fun h0=>?_,?_⟩
 · obtain⟨j,hj,e⟩:=List.getElem_of_mem (hs.subset (List.getElem_mem hi));rw[←e];exact(good_at h hj).1
 · exact List.pairwise_iff_getElem.1 ((goodRiseS h).sublist hs) (i-1) i (by omega) hi (by omega)
 · have h1:=sumU_allS h l'[i].1 l.length (Nat.le_refl _);rw[List.take_length]at h1;have h2:sumU (l'.take (i+1)) l'[i].1≤sumU l l'[i].1:=sum_subS (((List.take_sublist _ _).trans hs |>.filter _).map _);omega
end
def wo (s:SR) (k:Nat):SR:=⟨s.ps,s.cap.eraseIdx k,s.vot⟩
theorem wo_sound {s:SR} (h:soundB s=true) (k:Nat):soundB (wo s k)=true:=by
 unfold soundB at h ⊢;simp only[Bool.and_eq_true,decide_eq_true_eq]at h ⊢;exact⟨h.1,h.2.1,good_subS h.2.2.1 (List.eraseIdx_sublist _ _),h.2.2.2⟩
theorem wo_cap (l:List Lk) (k:Nat):capL (l.eraseIdx k)=(capL l).eraseIdx k:=by
 unfold capL;rw[List.eraseIdx_eq_take_drop_succ,List.eraseIdx_eq_take_drop_succ,List.map_append,List.map_take,List.map_drop]
theorem wo_in {W:World} {s:SR} {Ap Ac Av Az:Option Addr} (h:StIn W s Ap Ac Av) {k:Nat} (hz:InLk W Az (s.cap.eraseIdx k)):StIn W (wo s k) Ap Az Av :=
 ⟨h.ps,hz,h.vot,h.np,Nat.le_trans (List.length_eraseIdx_le _ _) h.nc,h.nv,h.zp,fun x hx=>h.zc x (List.mem_of_mem_eraseIdx hx),h.zv,fun x hx=>h.ic x (List.mem_of_mem_eraseIdx hx),h.iv⟩
theorem remS {x:Int} {n:Nat} (hx:0≤x) (hn:n≠0):∃p:Nat,x%(n:Int)=(p:Int)∧p<n∧x.tmod (n:Int)=(p:Int):=by
 have h0:=Int.emod_nonneg x (show (n:Int)≠0 by omega);have h1:=Int.emod_lt_of_pos x (show (0:Int)<(n:Int) by omega);refine⟨(x%(n:Int)).toNat,by omega,by omega,?_⟩;rw[Int.tmod_eq_emod_of_nonneg hx];omega
theorem law20_without (s:SR) (Ap Ac Av Af:Option Addr) (cp cc cv cf:Nat) (F:List Int) (x:Int) (w:World) (hE:Env w) (hs:StIn w s Ap Ac Av) (hF:InInt w Af F) (hFl:F.length≤140737488355328) (hx0:0≤x) (hx1:x≤255) (hcc:s.cap.length≤cc) :
 Calls Tryz.prog 9 #[.agg #[.slice Ap s.ps.length cp,.slice Ac s.cap.length cc,.slice Av s.vot.length cv],.slice Af F.length cf,.int .u8 x] w fun e w'=>e=.returned (.bool true)∧Below w.heap.size w w':=by
 have hX1:Hid (Bk (w.alloc (.cells #[.slice Ap s.ps.length cp,.slice Ac s.cap.length cc,.slice Av s.vot.length cv] 25)) w.heap.size 25 (SC s Ap Ac Av cp cc cv)):=Bk.new w _ _;have hB1:Hid (Below w.heap.size w (w.alloc (.cells #[.slice Ap s.ps.length cp,.slice Ac s.cap.length cc,.slice Av s.vot.length cv] 25))):=(Below.refl _ w).alloc (Nat.le_refl _) _;replace hE:=Lib.hid hE;replace hs:=Lib.hid hs;replace hF:=Lib.hid hF;replace hcc:=Lib.hid hcc;go_enter Tryz.func9,Tryz.ntmps9
 go_wp2_with fail
 refine(head20_any _ (hE.out.below hB1.out)).mono ?_;rintro e w2 ⟨rfl,hb⟩;have hX2:=Lib.hid (hX1.out.below hb);have hB2:=Lib.hid (hB1.out.trans (hb.mono hB1.out.size));clear hb hX1 hB1;have u0:=hX2.out.cell (j:=0) rfl;have u1:=hX2.out.cell (j:=1) rfl;have u2:=hX2.out.cell (j:=2) rfl;have u9:=hX2.out.lt;have kf:=Lib.hid (few7_some s Ap Ac Av cp cc cv w2 (hs.out.below hB2.out))
 go_wp2_with fail
 refine kf.out.mono ?_;rintro e w3 ⟨⟨r,rfl,hr⟩,hb⟩;have hX3:=Lib.hid (hX2.out.below hb);have hB3:=Lib.hid (hB2.out.trans (hb.mono hB2.out.size));clear hb hX2 hB2;clear u0 u1 u2 u9;clear kf;replace hr:=Lib.hid hr
 cases r with
 | false =>
   go_wp2;go_ret;exact⟨rfl,hB3.out⟩
 | true =>
   obtain⟨hp7,hc30,hv30⟩:=hr.out rfl;clear hr
   by_cases hlF:10<F.length
   · have m1:decide ((10:Int)<(F.length:Int))=true:=decide_eq_true (by omega);have n1:decide (10<F.length)=true:=decide_eq_true (by omega);replace hlF:=Lib.hid hlF;go_wp2;go_ret;exact⟨rfl,hB3.out⟩
   · have m1 : decide ((10:Int)<(F.length:Int))=false:=decide_eq_false (by omega);have n1:decide (10<F.length)=false:=decide_eq_false (by omega);have u1:=hX3.out.cell (j:=1) rfl;have u9:=hX3.out.lt
     by_cases hc0:s.cap.length=0
     · have m2:((s.cap.length:Int)==0)=true:=by rw[beq_iff_eq];omega
       have n2:(s.cap.length==0)=true:=by rw[beq_iff_eq];omega
       replace hc0:=Lib.hid hc0;go_wp2;go_ret;exact⟨rfl,hB3.out⟩
     · have m2 : ((s.cap.length:Int)==0)=false:=by rw[beq_eq_false_iff_ne];omega
       have n2:(s.cap.length==0)=false:=by rw[beq_eq_false_iff_ne];omega
       clear u1 u9;have u0:=hX3.out.cell (j:=0) rfl;have u1:=hX3.out.cell (j:=1) rfl;have u2:=hX3.out.cell (j:=2) rfl;have u9:=hX3.out.lt;have kc:=eff7_any s Ap Ac Av Af cp cc cv cf F w3 (hE.out.below hB3.out) (hs.out.below hB3.out) (by omega) (by omega) (hF.out.below hB3.out) (by omega)
       by_cases hg1:soundB s=true∧listB s.ps.length F=true
       rotate_left
       · have kc2:Hid (Calls Tryz.prog 17 #[.agg #[.slice Ap s.ps.length cp,.slice Ac s.cap.length cc,.slice Av s.vot.length cv],.slice Af F.length cf] w3 fun e w'=>e=.returned (.tuple #[.slice none 0 0,.int .i64 1])∧Below w3.heap.size w3 w'):=kc.mono fun e w' h=>⟨by have h1:=h.1;rw[if_neg hg1]at h1;exact h1,h.2⟩;clear kc;replace hg1:=Lib.hid hg1
         go_wp2_with fail
         refine kc2.out.mono ?_;rintro e w4 ⟨rfl,hb⟩;have hX4:=Lib.hid (hX3.out.below hb);have hB4:=Lib.hid (hB3.out.trans (hb.mono hB3.out.size));clear hb hX3 hB3;clear u0 u1 u2 u9;clear kc2 ;go_wp2;go_ret;exact⟨rfl,hB4.out⟩
       · have kc2 : Hid (Calls Tryz.prog 17 #[.agg #[.slice Ap s.ps.length cp,.slice Ac s.cap.length cc,.slice Av s.vot.length cv],.slice Af F.length cf] w3 fun e w'=>(∃b,e=.returned (.tuple #[.slice (some ⟨b,0,none⟩) s.ps.length s.ps.length,.int .i64 0])∧RowB w' b s.ps.length fun p=>rq (ev s F p))∧Below w3.heap.size w3 w'):=kc.mono fun e w' h=>⟨by have h1:=h.1;rw[if_pos hg1]at h1;obtain⟨b,e1,_,e2⟩:=h1;exact⟨b,e1,e2⟩,h.2⟩;clear kc;replace hg1:=Lib.hid hg1
         go_wp2_with fail
         refine kc2.out.mono ?_;rintro e w4 ⟨⟨eb1,rfl,hRow1⟩,hb⟩;have hX4:=Lib.hid (hX3.out.below hb);have hB4:=Lib.hid (hB3.out.trans (hb.mono hB3.out.size));clear hb hX3 hB3;have hRow14:=Lib.hid hRow1;clear hRow1;clear u0 u1 u2 u9;clear kc2 ;clear m1 n1;obtain⟨k,hk,hkm,hk2⟩:=remS (n:=s.cap.length) hx0 hc0;have hci:((s.cap.length:Int)==0)=false:=by rw[beq_eq_false_iff_ne];omega
         have hcz:(s.cap.length:Int)≠0:=by omega
         obtain⟨mb,hmb⟩:∃x,x=w4.heap.size:=⟨_,rfl⟩;obtain⟨w0,hw0⟩:∃W,W=(w4.alloc (.cells #[.slice Ap s.ps.length cp,.slice Ac s.cap.length cc,.slice Av s.vot.length cv] 25)):=⟨_,rfl⟩;have hB0:Hid (Below w.heap.size w w0):=by rw[hw0];exact hB4.out.alloc hB4.out.size _
         have hX0:Hid (Bk w0 w.heap.size 25 (SC s Ap Ac Av cp cc cv)):=by rw[hw0];exact hX4.out.alloc _
         have hE0:Hid (RowB w0 eb1 s.ps.length fun p=>rq (ev s F p)):=by rw[hw0];exact hRow14.out.alloc _
         have hM0:Hid (Bk w0 mb 25 [.slice Ap s.ps.length cp,.slice Ac s.cap.length cc,.slice Av s.vot.length cv]):=by rw[hw0,hmb];exact Bk.new _ _ _
         have hlm:Hid (w.heap.size<mb∧eb1<mb):=⟨by rw[hmb];exact hX4.out.lt,by rw[hmb];exact hRow14.out.lt⟩;have u0:=hX4.out.cell (j:=0) rfl;have u1:=hX4.out.cell (j:=1) rfl;have u2:=hX4.out.cell (j:=2) rfl;have u9:=hX4.out.lt
         go_wp2_with fail
         (try rw[←hw0])
         (try rw[←hmb])
         replace hw0:=Lib.hid hw0;replace hmb:=Lib.hid hmb;clear u0 u1 u2 u9 hX4 hB4 hRow14 hk2 hci hcz m2 n2;obtain⟨lb,lo,hAe,hlb9,hlc9⟩:=hs.out.cap (by omega);subst hAe;clear hlb9 hlc9;replace hk:=Lib.hid hk;refine sw9 w.heap.size mb lb lo s.ps.length cp cc s.vot.length cv k Ap Av s.cap w0 hX0.out hM0.out (hs.out.below hB0.out).cap hkm hcc.out (by omega) (by have:=hlm.out.1;omega) ?_;intro _ _ _ _ _ _ _ _ _ _ _ _ _ w1 Az cz hK1 hM1 hI1;have hB1:Hid (Below w.heap.size w w1):=hK1.out.to_below hB0.out (fun x hx=>by have:=hlm.out.1;simp at hx;omega);have hE1:Hid (RowB w1 eb1 s.ps.length fun p=>rq (ev s F p)):=rowB_kp hE0.out hK1.out (by have:=hlm.out.2;simp;omega);clear hK1 hM0 hX0 hE0 hB0;have hsd:=Lib.hid (wo_sound hg1.out.1 k);have hle:(s.cap.eraseIdx k).length≤s.cap.length:=List.length_eraseIdx_le _ _;have hs1:=Lib.hid (fun W (h:Below w1.heap.size w1 W)=>wo_in (Az:=Az) (hs.out.below (hB1.out.trans (h.mono hB1.out.size))) (hI1.out.below h));have kc2:Hid (Calls Tryz.prog 17 #[.agg #[.slice Ap s.ps.length cp,.slice Az (s.cap.eraseIdx k).length cz,.slice Av s.vot.length cv],.slice Af F.length cf] w1 fun e w'=>(∃b,e=.returned (.tuple #[.slice (some ⟨b,0,none⟩) s.ps.length s.ps.length,.int .i64 0])∧RowB w' b s.ps.length fun p=>rq (ev (wo s k) F p))∧Below w1.heap.size w1 w'):=(eff7_any (wo s k) Ap Az Av Af cp cz cv cf F w1 (hE.out.below hB1.out) (hs1.out _ (Below.refl _ _)) (by show s.ps.length≤8;omega) (by show (s.cap.eraseIdx k).length≤300;omega) (hF.out.below hB1.out) hFl).mono fun e w' h=>⟨by have h1:=h.1;rw[if_pos ⟨hsd.out,hg1.out.2⟩]at h1;obtain⟨b,e1,_,e2⟩:=h1;exact⟨b,e1,e2⟩,h.2⟩;have u0:=hM1.out.cell (j:=0) rfl;have u1:=hM1.out.cell (j:=1) rfl;have u2:=hM1.out.cell (j:=2) rfl;have u9:=hM1.out.lt
         go_wp2_with fail
         refine kc2.out.mono ?_;rintro e w2b ⟨⟨ebx,rfl,hRx⟩,hb⟩;have hB2:=Lib.hid (hB1.out.trans (hb.mono hB1.out.size));have hM2:=Lib.hid (hM1.out.below hb);have hE2:=Lib.hid (hE1.out.below hb hE1.out.lt);have hRx2:=Lib.hid hRx;have hk12:=Lib.hid hb;clear hb kc2 hRx u0 u1 u2 u9 hM1 hE1;have ks:=Lib.hid (Sound_any (wo s k) Ap Az Av cp cz cv w2b (hE.out.below hB2.out) (hs1.out _ hk12.out));have ks2:Hid (Calls Tryz.prog 28 #[.agg #[.slice Ap s.ps.length cp,.slice Az (s.cap.eraseIdx k).length cz,.slice Av s.vot.length cv]] w2b fun e w'=>e=.returned (.bool true)∧Below w2b.heap.size w2b w'):=by have h:=ks.out;rw[hsd.out]at h;exact h
         clear ks;have u0:=hM2.out.cell (j:=0) rfl;have u1:=hM2.out.cell (j:=1) rfl;have u2:=hM2.out.cell (j:=2) rfl;have u9:=hM2.out.lt
         go_wp2_with fail
         refine ks2.out.mono ?_;rintro e w0c ⟨rfl,hb⟩;have hB0:=Lib.hid (hB2.out.trans (hb.mono hB2.out.size));have hE0:=Lib.hid (hE2.out.below hb hE2.out.lt);have hRx0:=Lib.hid (hRx2.out.below hb hRx2.out.lt);clear hb ks2 u0 u1 u2 u9 hM2 hE2 hRx2 hk12 hB1 hB2 hs1 hI1;have hmF:=few_many F hg1.out.1 (by omega);have hmW:=few_many (s:=wo s k) F hsd.out (by show s.ps.length≤8;omega);have hL:=caps_of hg1.out.1;have hle2:Hid (∀p,p<s.ps.length→ev (wo s k) F p≤ev s F p):=fun p hp=>(ev_eff hg1.out.1 hmF).without hL (k:=k) (by have h:=ev_eff hsd.out hmW;unfold wo at h;dsimp only at h;rw[wo_cap]at h;exact h) p hp;obtain⟨D1,hv1⟩:=ev_vals (F:=F) hg1.out.1 hmF;obtain⟨D2,hv2⟩:=ev_vals (F:=F) hsd.out hmW;replace hv1:=Lib.hid hv1;replace hv2:=Lib.hid hv2;clear hmF hmW hL;have hK0:Hid (Below w0c.heap.size w0c w0c):=Below.refl _ _
         go_wp2_with fail
         go_loopw [14] (fun ix wr=>∃(p:Nat),p≤s.ps.length∧ix=.int .i64 (p:Int)∧Hid (Below w0c.heap.size w0c wr)) (fun ix _=>s.ps.length-(intOf ix).toNat)
         case atStart=>exact⟨0,Nat.zero_le _,rfl,hK0⟩
         case round =>
          clear hK0;obtain⟨p,hp,rfl,hK⟩:=hrel;obtain⟨wp,rfl⟩:∃z,z=wr:=⟨_,rfl⟩;have hBp:=Lib.hid (hB0.out.trans (hK.out.mono hB0.out.size))
          by_cases hpn:p<s.ps.length
          · obtain ⟨x0,x1,x2⟩:=(hRx0.out.below hK.out hRx0.out.lt).cell hpn;have x9:=(hRx0.out.below hK.out hRx0.out.lt).lt;obtain⟨y0,y1,y2⟩:=(hE0.out.below hK.out hE0.out.lt).cell hpn;have y9:=(hE0.out.below hK.out hE0.out.lt).lt;have hqa:=hle2.out p hpn;have sx:=hv2.out.short p;have sy:=hv1.out.short p;obtain⟨qx,hqx⟩:∃q,q=ev (wo s k) F p:=⟨_,rfl⟩;obtain⟨qy,hqy⟩:∃q,q=ev s F p:=⟨_,rfl⟩;rw[←hqx]at x0 x1 x2 hqa sx;rw[←hqy]at y0 y1 y2 hqa sy;clear hqx hqy;have kl:Hid (∀W,Env W→Calls Tryz.prog 23 #[.agg #[.bool (rq (qx)).1,.string (rq (qx)).2.1,.string (rq (qx)).2.2],.agg #[.bool (rq (qy)).1,.string (rq (qy)).2.1,.string (rq (qy)).2.2]] W fun e w'=>e=.returned (.bool true)∧Below W.heap.size W w'):=fun W hW=>by have h:=least20_any qx qy sx sy W hW;rw[decide_eq_true hqa]at h;exact h
            clear hqa sx sy;have j0:(0:Int)≤(p:Int):=by omega
            have j1:(p:Int)<(s.ps.length:Int):=by omega
            have HT:Hid (∀W,Below wp.heap.size wp W→(fun W=>W.cell? ⟨ebx,p*3,none⟩=some (.bool (rq (qx)).1)∧W.cell? ⟨ebx,p*3+1,none⟩=some (.string (rq (qx)).2.1)∧W.cell? ⟨ebx,p*3+2,none⟩=some (.string (rq (qx)).2.2)∧W.cell? ⟨eb1,p*3,none⟩=some (.bool (rq (qy)).1)∧W.cell? ⟨eb1,p*3+1,none⟩=some (.string (rq (qy)).2.1)∧W.cell? ⟨eb1,p*3+2,none⟩=some (.string (rq (qy)).2.2)) W):=fun W h=>⟨(h.cell (p:=⟨ebx,p*3,none⟩) x9).trans x0,(h.cell (p:=⟨ebx,p*3+1,none⟩) x9).trans x1,(h.cell (p:=⟨ebx,p*3+2,none⟩) x9).trans x2,(h.cell (p:=⟨eb1,p*3,none⟩) y9).trans y0,(h.cell (p:=⟨eb1,p*3+1,none⟩) y9).trans y1,(h.cell (p:=⟨eb1,p*3+2,none⟩) y9).trans y2⟩;have hE9:Hid (∀W,Below wp.heap.size wp W→Env W):=fun W h=>hE.out.below (hBp.out.trans (h.mono hBp.out.size));clear x0 x1 x2 x9 y0 y1 y2 y9
            go_wp2_with fail
            refine region_below (by kernel_rfl) (by kernel_rfl) ?_
            repeat (
             refine wpQuiet_step (fun K hK=>?_);go_simp
             first
              | (refine hK _ ?_;clear hK K)
              | (apply Exists.intro
                 refine⟨fun W hW=>?_,hK _ ?_⟩
                 first
                  | (with_reducible exact quiet_below hW (kl.out W (hE9.out W hW)))
                  | (obtain⟨q1,q2,q3,q4,q5,q6⟩:=HT.out W hW;go_simp<;>with_reducible rfl)
                 clear hK K))
            refine wpQuiet_nil ?_;intro wf hbz;have hKf:Hid (Below w0c.heap.size w0c wf):=hK.out.trans (hbz.mono hK.out.size);clear HT hE9 kl hbz;go_wp2;exact⟨⟨p+1,by omega,by go_num,hKf⟩,by simp only[intOf];omega⟩
          · obtain rfl:p=s.ps.length:=by omega
            go_wp2;go_ret;exact⟨rfl,hBp.out⟩
end Sh
end Go.Proofs.YtioidbebjgeahaaGreatDoor

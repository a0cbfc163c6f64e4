/- Texts that the proof needs: LawBHoldsL. -/
import Derived.Deep.RegionHeld3
import Derived.Deep.QuietTactic
import Derived.BigQuiet
import Derived.Test.YtilodknkildkbaaGreatDoorKbA
import Derived.Test.YtilodknkildkbaaGreatDoorKbB
import Derived.Test.YtilodknkildkbaaGreatDoorKbC
import Derived.Test.YtilodknkildkbaaGreatDoorKbD
import Derived.Test.YtilodknkildkbaaGreatDoorKbE
import Derived.Test.YtilodknkildkbaaGreatDoorKbF
import Derived.Test.YtilodknkildkbaaGreatDoorKbG
import Derived.Test.YtilodknkildkbaaGreatDoorKbH
import Derived.Test.YtilodknkildkbaaGreatDoorKbI
import Derived.Test.YtilodknkildkbaaGreatDoorKbJ
import Derived.Test.YtilodknkildkbaaGreatDoorKbK
set_option maxHeartbeats 16000000
set_option maxRecDepth 100000
namespace Go.Proofs.YtilodknkildkbaaGreatDoor
open Go.RowKit Go.Shelf
namespace Bd
open Nt Ci Sh
theorem JP (s:SR) (Ap Ac Av Af:Option Addr) (cp cc cv cf:Nat) (F:List Int) (Aq Dq:Option Addr) (mq oq:Nat) (Vq:List Raw) (Rq:List Int) (w:World) (hE:Env w) (hs:StIn w s Ap Ac Av) (hF:InInt w Af F) (hFl:F.length≤140737488355328) (hCq:CIn w Aq Dq Vq Rq) :
 Calls Tryz.prog 4 #[.agg #[.slice Ap s.ps.length cp,.slice Ac s.cap.length cc,.slice Av s.vot.length cv],.slice Af F.length cf,.agg #[.bool false,.slice Aq Vq.length mq,.slice Dq Rq.length oq]] w fun e w'=>e=.returned (.bool true)∧Below w.heap.size w w':=by
 have hB1:Hid (Below w.heap.size w ((w.alloc (.cells #[.slice Ap s.ps.length cp,.slice Ac s.cap.length cc,.slice Av s.vot.length cv] 25)).alloc (.cells #[.bool false,.slice Aq Vq.length mq,.slice Dq Rq.length oq] 29))):=((Below.refl _ w).alloc (Nat.le_refl _) _).alloc (by simp) _;have hX1:Hid (Bk ((w.alloc (.cells #[.slice Ap s.ps.length cp,.slice Ac s.cap.length cc,.slice Av s.vot.length cv] 25)).alloc (.cells #[.bool false,.slice Aq Vq.length mq,.slice Dq Rq.length oq] 29)) w.heap.size 25 (SC s Ap Ac Av cp cc cv)):=((Bk.new w 25 [.slice Ap s.ps.length cp,.slice Ac s.cap.length cc,.slice Av s.vot.length cv]).alloc (.cells #[.bool false,.slice Aq Vq.length mq,.slice Dq Rq.length oq] 29));have hYq1:Hid (Bk ((w.alloc (.cells #[.slice Ap s.ps.length cp,.slice Ac s.cap.length cc,.slice Av s.vot.length cv] 25)).alloc (.cells #[.bool false,.slice Aq Vq.length mq,.slice Dq Rq.length oq] 29)) (w.heap.size+1) 29 [.bool false,.slice Aq Vq.length mq,.slice Dq Rq.length oq]):=(by have h:=Bk.new (w.alloc (.cells #[.slice Ap s.ps.length cp,.slice Ac s.cap.length cc,.slice Av s.vot.length cv] 25)) 29 [.bool false,.slice Aq Vq.length mq,.slice Dq Rq.length oq];(try simp only[World.size_alloc]at h);exact h:Bk ((w.alloc (.cells #[.slice Ap s.ps.length cp,.slice Ac s.cap.length cc,.slice Av s.vot.length cv] 25)).alloc (.cells #[.bool false,.slice Aq Vq.length mq,.slice Dq Rq.length oq] 29)) (w.heap.size+1) 29 [.bool false,.slice Aq Vq.length mq,.slice Dq Rq.length oq]);replace hE:=zh hE;replace hs:=zh hs;replace hF:=zh hF;replace hCq:=zh hCq;go_enter Tryz.func4,Tryz.ntmps4
 go_wp2_with fail
 refine(Dr _ (hE.out.below hB1.out)).mono ?_;rintro e w2 ⟨rfl,hb⟩;have hX2:=zh (hX1.out.below hb);have hB2:=zh (hB1.out.trans (hb.mono hB1.out.size));have hYq2:=zh (hYq1.out.below hb);clear hb hX1 hB1 hYq1;have u0:=hX2.out.c0;have u1:=hX2.out.c1;have u2:=hX2.out.c2;have u9:=hX2.out.lt;have yq0:=hYq2.out.c0;have yq1:=hYq2.out.c1;have yq2:=hYq2.out.c2;have yq9:=hYq2.out.lt;have kf:=zh (Ij s Ap Ac Av Aq Dq cp cc cv cf mq oq Af F false Vq Rq w2 (hs.out.below hB2.out) hFl (hCq.out.below hB2.out))
 go_wp2_with fail
 refine kf.out.mono ?_;rintro e w3 ⟨⟨r,rfl,hr⟩,hb⟩;have hX3:=zh (hX2.out.below hb);have hB3:=zh (hB2.out.trans (hb.mono hB2.out.size));have hYq3:=zh (hYq2.out.below hb);clear hb hX2 hB2 hYq2;clear u0 u1 u2 u9;clear yq0 yq1 yq2 yq9;clear kf;replace hr:=zh hr
 cases r with
 | false =>
   go_wp2;go_ret;exact⟨rfl,hB3.out⟩
 | true =>
   obtain⟨hfs,hF70,hSmq⟩:=hr.out rfl;replace hfs:=zh hfs;replace hSmq:=zh hSmq;clear hr;have u0:=hX3.out.c0;have u1:=hX3.out.c1;have u2:=hX3.out.c2;have u9:=hX3.out.lt;have yq0:=hYq3.out.c0;have yq1:=hYq3.out.c1;have yq2:=hYq3.out.c2;have yq9:=hYq3.out.lt;have kc:=zh (CC s Ap Ac Av Af Aq Dq cp cc cv cf mq oq F false Vq Rq w3 (hE.out.below hB3.out) (hs.out.below hB3.out) (BO hfs.out) (hF.out.below hB3.out) hFl (hCq.out.below hB3.out))
   go_wp2_with fail
   refine kc.out.mono ?_;rintro e w4 ⟨⟨r,rfl,hr⟩,hb⟩;have hX4:=zh (hX3.out.below hb);have hB4:=zh (hB3.out.trans (hb.mono hB3.out.size));have hYq4:=zh (hYq3.out.below hb);clear hb hX3 hB3 hYq3;clear u0 u1 u2 u9;clear yq0 yq1 yq2 yq9;clear kc;replace hr:=zh hr
   cases r with
   | false =>
     go_wp2;go_ret;exact⟨rfl,hB4.out⟩
   | true =>
     have hKq:=zh (hr.out.1 rfl);clear hr;have u0:=hX4.out.c0;have u1:=hX4.out.c1;have u2:=hX4.out.c2;have u9:=hX4.out.lt;have ke:=FP s Ap Ac Av Af cp cc cv cf F w4 (hE.out.below hB4.out) (hs.out.below hB4.out) (BO hfs.out) (hF.out.below hB4.out) hFl
     by_cases htm:tooMany s.ps.length (edges s) (toN F)=true
     · have ke2:Hid (Calls Tryz.prog 20 #[.agg #[.slice Ap s.ps.length cp,.slice Ac s.cap.length cc,.slice Av s.vot.length cv],.slice Af F.length cf] w4 fun e w'=>e=.returned (.tuple #[.slice none 0 0,.int .i64 2])∧Below w4.heap.size w4 w'):=ke.mono fun e w' h=>⟨by have h1:=h.1;rw[if_pos hKq.out.1,if_pos htm]at h1;exact h1,h.2⟩;clear ke;replace htm:=zh htm
       go_wp2_with fail
       refine ke2.out.mono ?_;rintro e w5 ⟨rfl,hb⟩;have hX5:=zh (hX4.out.below hb);have hB5:=zh (hB4.out.trans (hb.mono hB4.out.size));have hYq5:=zh (hYq4.out.below hb);clear hb hX4 hB4 hYq4;clear u0 u1 u2 u9;clear ke2;go_wp2;go_ret;exact⟨rfl,hB5.out⟩
     · have ke2 : Hid (Calls Tryz.prog 20 #[.agg #[.slice Ap s.ps.length cp,.slice Ac s.cap.length cc,.slice Av s.vot.length cv],.slice Af F.length cf] w4 fun e w'=>(∃b,e=.returned (.tuple #[.slice (some ⟨b,0,none⟩) s.ps.length s.ps.length,.int .i64 0])∧RowB w' b s.ps.length fun p=>rq (ev s F p))∧Below w4.heap.size w4 w'):=ke.mono fun e w' h=>⟨by have h1:=h.1;rw[if_pos hKq.out.1,if_neg htm]at h1;obtain⟨b,e1,_,e2⟩:=h1;exact⟨b,e1,e2⟩,h.2⟩;have htf:tooMany s.ps.length (edges s) (toN F)=false:=by simpa using htm
       obtain⟨DD,hvl⟩:=JG (F:=F) (hKq.out.1).1 htf;have hev:=zh (Gs (F:=F) (hKq.out.1).1 htf);clear ke htm;replace htf:=zh htf;replace hvl:=zh hvl
       go_wp2_with fail
       refine ke2.out.mono ?_;rintro e w5 ⟨⟨eb,rfl,hRow⟩,hb⟩;have hX5:=zh (hX4.out.below hb);have hB5:=zh (hB4.out.trans (hb.mono hB4.out.size));have hYq5:=zh (hYq4.out.below hb);clear hb hX4 hB4 hYq4;have hRow5:=zh hRow;clear hRow;clear u0 u1 u2 u9;clear ke2;have yq0:=hYq5.out.c0;have yq1:=hYq5.out.c1;have yq2:=hYq5.out.c2;have yq9:=hYq5.out.lt;have hlq:=hKq.out.len;have m1:((s.ps.length:Int) != (Vq.length:Int))=false:=by rw[bne_eq_false_iff_eq];omega
       have m2:(s.ps.length != Vq.length)=false:=by rw[bne_eq_false_iff_eq];omega
       have hle:Hid (∀p,p<s.ps.length→BT Vq p≤ev s F p):=hKq.out.blw.eff (AQ hKq.out.sound) hev.out;have hK0:Hid (Below w5.heap.size w5 w5):=Below.refl _ _
       go_wp2_with fail
       clear yq0 yq1 yq2 yq9
       go_loopw [10] (fun ix wr=>∃(p:Nat),p≤s.ps.length∧ix=.int .i64 (p:Int)∧Hid (Below w5.heap.size w5 wr)) (fun ix _=>s.ps.length-(intOf ix).toNat)
       case atStart=>exact⟨0,Nat.zero_le _,rfl,hK0⟩
       case round =>
        clear hK0;obtain⟨p,hp,rfl,hK⟩:=hrel;obtain⟨wp,rfl⟩:∃z,z=wr:=⟨_,rfl⟩;have hBp:=zh (hB5.out.trans (hK.out.mono hB5.out.size));have hYqp:=zh (hYq5.out.below hK.out);have hRp:=zh (hRow5.out.below hK.out hRow5.out.lt);have yq0:=hYqp.out.c0;have yq1:=hYqp.out.c1;have yq2:=hYqp.out.c2;have yq9:=hYqp.out.lt;have hp47:=hs.out.np
        by_cases hpn:p<s.ps.length
        · have j0:(0:Int)≤(p:Int):=by omega
          have j1:(p:Int)<(Vq.length:Int):=by omega
          have j2:(p:Int)<(s.ps.length:Int):=by omega
          obtain⟨bq,fq,hAq,z9,hz⟩:=(hCq.out.below hBp.out).row (by omega);subst hAq;obtain⟨z0,z1,z2⟩:=hz p (by omega);have ez:=hKq.out.raw (p:=p) (by omega);rw[ez]at z0 z1 z2;clear hz ez;obtain⟨x0,x1,x2⟩:=hRp.out.cell hpn;have x9:=hRp.out.lt;have hqa:=hle.out p hpn;have sx:=hvl.out.short p;have sy:=hKq.out.short p;obtain⟨qx,hqx⟩:∃q,q=ev s F p:=⟨_,rfl⟩;obtain⟨qz,hqz⟩:∃q,q=BT Vq p:=⟨_,rfl⟩;rw[←hqx]at x0 x1 x2 hqa sx;rw[←hqz]at z0 z1 z2 hqa sy;clear hqx hqz;have kl:Hid (∀W,Env W→Calls Tryz.prog 21 #[.agg #[.bool (rq (qz)).1,.string (rq (qz)).2.1,.string (rq (qz)).2.2],.agg #[.bool (rq (qx)).1,.string (rq (qx)).2.1,.string (rq (qx)).2.2]] W fun e w'=>e=.returned (.bool true)∧Below W.heap.size W w'):=fun W hW=>by have h:=ED qz qx sy sx W hW;rw[decide_eq_true hqa]at h;exact h
          clear hqa sx sy;have HT:Hid (∀W,Below wp.heap.size wp W→(fun W=>W.cell? ⟨w.heap.size+1,0,none⟩=some (.bool false)∧W.cell? ⟨w.heap.size+1,1,none⟩=some (.slice (some ⟨bq,fq,none⟩) Vq.length mq)∧W.cell? ⟨eb,p*3,none⟩=some (.bool (rq (qx)).1)∧W.cell? ⟨eb,p*3+1,none⟩=some (.string (rq (qx)).2.1)∧W.cell? ⟨eb,p*3+2,none⟩=some (.string (rq (qx)).2.2)∧W.cell? ⟨bq,fq+p*3,none⟩=some (.bool (rq (qz)).1)∧W.cell? ⟨bq,fq+p*3+1,none⟩=some (.string (rq (qz)).2.1)∧W.cell? ⟨bq,fq+p*3+2,none⟩=some (.string (rq (qz)).2.2)) W):=fun W h=>⟨(h.cell (p:=⟨w.heap.size+1,0,none⟩) yq9).trans yq0,(h.cell (p:=⟨w.heap.size+1,1,none⟩) yq9).trans yq1,(h.cell (p:=⟨eb,p*3,none⟩) x9).trans x0,(h.cell (p:=⟨eb,p*3+1,none⟩) x9).trans x1,(h.cell (p:=⟨eb,p*3+2,none⟩) x9).trans x2,(h.cell (p:=⟨bq,fq+p*3,none⟩) z9).trans z0,(h.cell (p:=⟨bq,fq+p*3+1,none⟩) z9).trans z1,(h.cell (p:=⟨bq,fq+p*3+2,none⟩) z9).trans z2⟩;have hE9:Hid (∀W,Below wp.heap.size wp W→Env W):=fun W h=>hE.out.below (hBp.out.trans (h.mono hBp.out.size));clear x0 x1 x2 x9 z0 z1 z2 z9
          go_wp2_with fail
          clear yq0 yq1 yq2 yq9;refine AD (by kernel_rfl) (by kernel_rfl) ?_
          repeat (
           with_reducible refine wpQuiet_step (fun K hK=>?_)
           first
            | (refine AY (by rfl) ?_;refine hK _ ?_;clear hK K;(try simp only[Act.put,List.setIfInBounds_toArray,List.set_cons_zero,List.set_cons_succ]))
            | (refine AZ (by rfl) ?_
               go_simp;apply Exists.intro;refine⟨fun W hW=>?_,hK _ ?_⟩
               first
                | (with_reducible exact A0 hW (kl.out W (hE9.out W hW)))
                | (obtain⟨q1,q2,q3,q4,q5,q6,q7,q8⟩:=HT.out W hW;go_simp<;>with_reducible rfl)
               clear hK K))
          refine wpQuiet_nil ?_;intro wf hbz;have hKf:Hid (Below w5.heap.size w5 wf):=hK.out.trans (hbz.mono hK.out.size);clear HT hE9 kl hbz;go_wp2;exact⟨⟨p+1,by omega,by go_num,hKf⟩,by simp only[intOf];omega⟩
        · obtain rfl:p=s.ps.length:=by omega
          go_wp2;go_ret;exact⟨rfl,hBp.out⟩
end Bd
end Go.Proofs.YtilodknkildkbaaGreatDoor

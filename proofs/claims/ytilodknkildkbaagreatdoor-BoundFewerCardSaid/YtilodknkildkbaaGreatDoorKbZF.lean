/- Texts that the proof needs: LawBFewer. -/
import Derived.Deep.RegionHeld3
import Derived.Deep.QuietTactic
import Derived.BigQuiet
import Derived.Test.YtilodknkildkbaaGreatDoorKbA
import Derived.Test.YtilodknkildkbaaGreatDoorKbB
import Derived.Test.YtilodknkildkbaaGreatDoorKbC
import Derived.Test.YtilodknkildkbaaGreatDoorKbD
import Derived.Test.YtilodknkildkbaaGreatDoorKbE
import Derived.Test.YtilodknkildkbaaGreatDoorKbF
import Derived.Test.YtilodknkildkbaaGreatDoorKbG
import Derived.Test.YtilodknkildkbaaGreatDoorKbH
import Derived.Test.YtilodknkildkbaaGreatDoorKbI
import Derived.Test.YtilodknkildkbaaGreatDoorKbJ
import Derived.Test.YtilodknkildkbaaGreatDoorKbK
import Derived.Test.YtilodknkildkbaaGreatDoorKbY
import Derived.Test.YtilodknkildkbaaGreatDoorKbZE
set_option maxHeartbeats 16000000
set_option maxRecDepth 100000
namespace Go.Proofs.YtilodknkildkbaaGreatDoor
open Go.RowKit Go.Shelf
namespace Bd
open Nt Ci Sh
theorem Lh (s:SR) (Ap Ac Av Af:Option Addr) (cp cc cv cf:Nat) (F:List Int) (kq:Bool) (Aq Dq:Option Addr) (mq oq:Nat) (Vq:List Raw) (Rq:List Int) (x:Int) (w:World) (hE:Env w) (hs:StIn w s Ap Ac Av) (hF:InInt w Af F) (hFl:F.length≤140737488355328) (hCq:CIn w Aq Dq Vq Rq) (hx0:0≤x) (hx1:x≤255) (hcc:s.cap.length≤cc) :
 Calls Tryz.prog 9 #[.agg #[.slice Ap s.ps.length cp,.slice Ac s.cap.length cc,.slice Av s.vot.length cv],.slice Af F.length cf,.agg #[.bool kq,.slice Aq Vq.length mq,.slice Dq Rq.length oq],.int .u8 x] w fun e w'=>e=.returned (.bool true)∧Below w.heap.size w w':=by
 have hB1:Hid (Below w.heap.size w ((w.alloc (.cells #[.slice Ap s.ps.length cp,.slice Ac s.cap.length cc,.slice Av s.vot.length cv] 25)).alloc (.cells #[.bool kq,.slice Aq Vq.length mq,.slice Dq Rq.length oq] 29))):=((Below.refl _ w).alloc (Nat.le_refl _) _).alloc (by simp) _;have hX1:Hid (Bk ((w.alloc (.cells #[.slice Ap s.ps.length cp,.slice Ac s.cap.length cc,.slice Av s.vot.length cv] 25)).alloc (.cells #[.bool kq,.slice Aq Vq.length mq,.slice Dq Rq.length oq] 29)) w.heap.size 25 (SC s Ap Ac Av cp cc cv)):=((Bk.new w 25 [.slice Ap s.ps.length cp,.slice Ac s.cap.length cc,.slice Av s.vot.length cv]).alloc (.cells #[.bool kq,.slice Aq Vq.length mq,.slice Dq Rq.length oq] 29));have hYq1:Hid (Bk ((w.alloc (.cells #[.slice Ap s.ps.length cp,.slice Ac s.cap.length cc,.slice Av s.vot.length cv] 25)).alloc (.cells #[.bool kq,.slice Aq Vq.length mq,.slice Dq Rq.length oq] 29)) (w.heap.size+1) 29 [.bool kq,.slice Aq Vq.length mq,.slice Dq Rq.length oq]):=(by have h:=Bk.new (w.alloc (.cells #[.slice Ap s.ps.length cp,.slice Ac s.cap.length cc,.slice Av s.vot.length cv] 25)) 29 [.bool kq,.slice Aq Vq.length mq,.slice Dq Rq.length oq];(try simp only[World.size_alloc]at h);exact h:Bk ((w.alloc (.cells #[.slice Ap s.ps.length cp,.slice Ac s.cap.length cc,.slice Av s.vot.length cv] 25)).alloc (.cells #[.bool kq,.slice Aq Vq.length mq,.slice Dq Rq.length oq] 29)) (w.heap.size+1) 29 [.bool kq,.slice Aq Vq.length mq,.slice Dq Rq.length oq]);replace hE:=zh hE;replace hs:=zh hs;replace hF:=zh hF;replace hCq:=zh hCq;replace hcc:=zh hcc;go_enter Tryz.func9,Tryz.ntmps9
 go_wp2_with fail
 refine(Dr _ (hE.out.below hB1.out)).mono ?_;rintro e w2 ⟨rfl,hb⟩;have hX2:=zh (hX1.out.below hb);have hB2:=zh (hB1.out.trans (hb.mono hB1.out.size));have hYq2:=zh (hYq1.out.below hb);clear hb hX1 hB1 hYq1;have u0:=hX2.out.c0;have u1:=hX2.out.c1;have u2:=hX2.out.c2;have u9:=hX2.out.lt;have yq0:=hYq2.out.c0;have yq1:=hYq2.out.c1;have yq2:=hYq2.out.c2;have yq9:=hYq2.out.lt;have kf:=zh (Ij s Ap Ac Av Aq Dq cp cc cv cf mq oq Af F kq Vq Rq w2 (hs.out.below hB2.out) hFl (hCq.out.below hB2.out))
 go_wp2_with fail
 refine kf.out.mono ?_;rintro e w3 ⟨⟨r,rfl,hr⟩,hb⟩;have hX3:=zh (hX2.out.below hb);have hB3:=zh (hB2.out.trans (hb.mono hB2.out.size));have hYq3:=zh (hYq2.out.below hb);clear hb hX2 hB2 hYq2;clear u0 u1 u2 u9;clear yq0 yq1 yq2 yq9;clear kf;replace hr:=zh hr
 cases r with
 | false =>
   go_wp2;go_ret;exact⟨rfl,hB3.out⟩
 | true =>
   obtain⟨hfs,hF70,hSmq⟩:=hr.out rfl;replace hfs:=zh hfs;replace hSmq:=zh hSmq;clear hr;have yq0:=hYq3.out.c0;have yq9:=hYq3.out.lt;have u1:=hX3.out.c1;have u9:=hX3.out.lt
   cases kq with
   | false =>
     go_wp2;go_ret;exact⟨rfl,hB3.out⟩
   | true =>
     by_cases hc0:s.cap.length=0
     · have m2:((s.cap.length:Int)==0)=true:=by rw[beq_iff_eq];omega
       have n2:(s.cap.length==0)=true:=by rw[beq_iff_eq];omega
       replace hc0:=zh hc0;go_wp2;go_ret;exact⟨rfl,hB3.out⟩
     · have m2:((s.cap.length:Int)==0)=false:=by rw[beq_eq_false_iff_ne];omega
       have n2:(s.cap.length==0)=false:=by rw[beq_eq_false_iff_ne];omega
       clear u1 u9;clear yq0 yq9;have u0:=hX3.out.c0;have u1:=hX3.out.c1;have u2:=hX3.out.c2;have u9:=hX3.out.lt;have yq0:=hYq3.out.c0;have yq1:=hYq3.out.c1;have yq2:=hYq3.out.c2;have yq9:=hYq3.out.lt;have kc:=zh (CC s Ap Ac Av Af Aq Dq cp cc cv cf mq oq F true Vq Rq w3 (hE.out.below hB3.out) (hs.out.below hB3.out) (BO hfs.out) (hF.out.below hB3.out) hFl (hCq.out.below hB3.out))
       go_wp2_with fail
       refine kc.out.mono ?_;rintro e w4 ⟨⟨r,rfl,hr⟩,hb⟩;have hX4:=zh (hX3.out.below hb);have hB4:=zh (hB3.out.trans (hb.mono hB3.out.size));have hYq4:=zh (hYq3.out.below hb);clear hb hX3 hB3 hYq3;clear u0 u1 u2 u9;clear yq0 yq1 yq2 yq9;clear kc;replace hr:=zh hr
       cases r with
       | false =>
         go_wp2;go_ret;exact⟨rfl,hB4.out⟩
       | true =>
         have hKq:=zh (hr.out.1 rfl);clear hr;clear m2 n2;obtain⟨k,hk,hkm,hk2⟩:=Vh (n:=s.cap.length) hx0 hc0;have hci:((s.cap.length:Int)==0)=false:=by rw[beq_eq_false_iff_ne];omega
         have hcz:(s.cap.length:Int)≠0:=by omega
         obtain⟨mb,hmb⟩:∃x,x=w4.heap.size:=⟨_,rfl⟩;obtain⟨w0,hw0⟩:∃W,W=(w4.alloc (.cells #[.slice Ap s.ps.length cp,.slice Ac s.cap.length cc,.slice Av s.vot.length cv] 25)):=⟨_,rfl⟩;have hB0:Hid (Below w.heap.size w w0):=by rw[hw0];exact hB4.out.alloc hB4.out.size _
         have hX0:Hid (Bk w0 w.heap.size 25 (SC s Ap Ac Av cp cc cv)):=by rw[hw0];exact hX4.out.alloc _
         have hY0:Hid (Bk w0 (w.heap.size+1) 29 [.bool true,.slice Aq Vq.length mq,.slice Dq Rq.length oq]):=by rw[hw0];exact hYq4.out.alloc _
         have hM0:Hid (Bk w0 mb 25 [.slice Ap s.ps.length cp,.slice Ac s.cap.length cc,.slice Av s.vot.length cv]):=by rw[hw0,hmb];exact Bk.new _ _ _
         have hlm:Hid (w.heap.size+1<mb):=by rw[hmb];exact hYq4.out.lt
         have u0:=hX4.out.c0;have u1:=hX4.out.c1;have u2:=hX4.out.c2;have u9:=hX4.out.lt
         go_wp2_with fail
         (try rw[←hw0])
         (try rw[←hmb])
         replace hw0:=zh hw0;replace hmb:=zh hmb;clear u0 u1 u2 u9 hX4 hB4 hYq4 hk2 hci hcz;obtain⟨lb,lo,hAe,hlb9,hlc9⟩:=hs.out.cap (by omega);subst hAe;clear hlb9 hlc9;replace hk:=zh hk;refine bf6 w.heap.size mb lb lo s.ps.length cp cc s.vot.length cv k Ap Av s.cap w0 hX0.out hM0.out (hs.out.below hB0.out).cap hkm hcc.out (BO hfs.out) (by have:=hlm.out;omega) ?_;intro _ _ _ _ _ _ _ _ _ _ _ _ _ w1 Az cz hK1 hM1 hI1;have hB1:Hid (Below w.heap.size w w1):=hK1.out.to_below hB0.out (fun x hx=>by have:=hlm.out;simp at hx;omega);have hY1:=zh (hY0.out.kp hK1.out (by have:=hlm.out;simp;omega));clear hK1 hM0 hX0 hY0 hB0;have hsd:=zh (Lg hKq.out.sound k);have hle:(s.cap.eraseIdx k).length≤s.cap.length:=List.length_eraseIdx_le _ _;have hc3:=BO hfs.out;have hs1:=zh (fun W (h:Below w1.heap.size w1 W)=>UR (Az:=Az) (hs.out.below (hB1.out.trans (h.mono hB1.out.size))) (hI1.out.below h));have ks:=zh (CW (wo s k) Ap Az Av cp cz cv w1 (hE.out.below hB1.out) (hs1.out _ (Below.refl _ _)));have ks2:Hid (Calls Tryz.prog 27 #[.agg #[.slice Ap s.ps.length cp,.slice Az (s.cap.eraseIdx k).length cz,.slice Av s.vot.length cv]] w1 fun e w'=>e=.returned (.bool true)∧Below w1.heap.size w1 w'):=by have h:=ks.out;rw[hsd.out]at h;exact h
         clear ks;have u0:=hM1.out.c0;have u1:=hM1.out.c1;have u2:=hM1.out.c2;have u9:=hM1.out.lt
         go_wp2_with fail
         refine ks2.out.mono ?_;rintro e w2z ⟨rfl,hb⟩;have hB2:=zh (hB1.out.trans (hb.mono hB1.out.size));have hM2:=zh (hM1.out.below hb);have hY2:=zh (hY1.out.below hb);have hs2:=zh (hs1.out _ hb);clear hb ks2 u0 u1 u2 u9 hM1 hY1 hs1 hI1
         have kc:Hid (Calls Tryz.prog 18 #[.agg #[.slice Ap s.ps.length cp,.slice Az (s.cap.eraseIdx k).length cz,.slice Av s.vot.length cv],.slice Af F.length cf,.agg #[.bool true,.slice Aq Vq.length mq,.slice Dq Rq.length oq]] w2z fun e w'=>e=.returned (.bool true)∧Below w2z.heap.size w2z w') :=
          (CC (wo s k) Ap Az Av Af Aq Dq cp cz cv cf mq oq F true Vq Rq w2z (hE.out.below hB2.out) hs2.out (by show (s.cap.eraseIdx k).length≤300;omega) (hF.out.below hB2.out) hFl (hCq.out.below hB2.out)).mono fun e w' h=>by
            obtain⟨⟨r,e1,e2⟩,hb⟩:=h;rw[e2.2 (Pc hKq.out k)]at e1;exact⟨e1,hb⟩
         have u0:=hM2.out.c0;have u1:=hM2.out.c1;have u2:=hM2.out.c2;have u9:=hM2.out.lt;have y0:=hY2.out.c0;have y1:=hY2.out.c1;have y2:=hY2.out.c2;have y9:=hY2.out.lt
         go_wp2_with fail
         refine kc.out.mono ?_;rintro e w3 ⟨rfl,hb⟩;have hB3:=zh (hB2.out.trans (hb.mono hB2.out.size));clear hb kc u0 u1 u2 u9 y0 y1 y2 y9;go_wp2;go_ret;exact⟨rfl,hB3.out⟩
end Bd
end Go.Proofs.YtilodknkildkbaaGreatDoor

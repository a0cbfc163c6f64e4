/- Texts that the proof needs: LawBMeets. -/
import Derived.Deep.RegionHeld3
import Derived.Deep.QuietTactic
import Derived.BigQuiet
import Derived.Test.YtilodknkildkbaaGreatDoorKbA
import Derived.Test.YtilodknkildkbaaGreatDoorKbB
import Derived.Test.YtilodknkildkbaaGreatDoorKbC
import Derived.Test.YtilodknkildkbaaGreatDoorKbD
import Derived.Test.YtilodknkildkbaaGreatDoorKbE
import Derived.Test.YtilodknkildkbaaGreatDoorKbF
import Derived.Test.YtilodknkildkbaaGreatDoorKbG
import Derived.Test.YtilodknkildkbaaGreatDoorKbH
import Derived.Test.YtilodknkildkbaaGreatDoorKbI
import Derived.Test.YtilodknkildkbaaGreatDoorKbJ
import Derived.Test.YtilodknkildkbaaGreatDoorKbK
set_option maxHeartbeats 16000000
set_option maxRecDepth 100000
namespace Go.Proofs.YtilodknkildkbaaGreatDoor
open Go.RowKit Go.Shelf
namespace Bd
open Nt Ci Sh
theorem KZ (s:SR) (Ap Ac Av Af:Option Addr) (cp cc cv cf:Nat) (F:List Int) (ka:Bool) (Aa Da:Option Addr) (ma oa:Nat) (Va:List Raw) (Ra:List Int) (kb:Bool) (Ab Db:Option Addr) (mb ob:Nat) (Vb:List Raw) (Rb:List Int) (w:World) (hE:Env w) (hs:StIn w s Ap Ac Av) (hF:InInt w Af F) (hFl:F.length≤140737488355328) (hCa:CIn w Aa Da Va Ra) (hCb:CIn w Ab Db Vb Rb) :
 Calls Tryz.prog 6 #[.agg #[.slice Ap s.ps.length cp,.slice Ac s.cap.length cc,.slice Av s.vot.length cv],.slice Af F.length cf,.agg #[.bool ka,.slice Aa Va.length ma,.slice Da Ra.length oa],.agg #[.bool kb,.slice Ab Vb.length mb,.slice Db Rb.length ob]] w fun e w'=>e=.returned (.bool true)∧Below w.heap.size w w':=by
 have hB1:Hid (Below w.heap.size w (((w.alloc (.cells #[.slice Ap s.ps.length cp,.slice Ac s.cap.length cc,.slice Av s.vot.length cv] 25)).alloc (.cells #[.bool ka,.slice Aa Va.length ma,.slice Da Ra.length oa] 29)).alloc (.cells #[.bool kb,.slice Ab Vb.length mb,.slice Db Rb.length ob] 29))):=(((Below.refl _ w).alloc (Nat.le_refl _) _).alloc (by simp) _).alloc (by simp;omega) _;have hX1:Hid (Bk (((w.alloc (.cells #[.slice Ap s.ps.length cp,.slice Ac s.cap.length cc,.slice Av s.vot.length cv] 25)).alloc (.cells #[.bool ka,.slice Aa Va.length ma,.slice Da Ra.length oa] 29)).alloc (.cells #[.bool kb,.slice Ab Vb.length mb,.slice Db Rb.length ob] 29)) w.heap.size 25 (SC s Ap Ac Av cp cc cv)):=(((Bk.new w 25 [.slice Ap s.ps.length cp,.slice Ac s.cap.length cc,.slice Av s.vot.length cv]).alloc (.cells #[.bool ka,.slice Aa Va.length ma,.slice Da Ra.length oa] 29)).alloc (.cells #[.bool kb,.slice Ab Vb.length mb,.slice Db Rb.length ob] 29));have hYa1:Hid (Bk (((w.alloc (.cells #[.slice Ap s.ps.length cp,.slice Ac s.cap.length cc,.slice Av s.vot.length cv] 25)).alloc (.cells #[.bool ka,.slice Aa Va.length ma,.slice Da Ra.length oa] 29)).alloc (.cells #[.bool kb,.slice Ab Vb.length mb,.slice Db Rb.length ob] 29)) (w.heap.size+1) 29 [.bool ka,.slice Aa Va.length ma,.slice Da Ra.length oa]):=(Bk.alloc (by have h:=Bk.new (w.alloc (.cells #[.slice Ap s.ps.length cp,.slice Ac s.cap.length cc,.slice Av s.vot.length cv] 25)) 29 [.bool ka,.slice Aa Va.length ma,.slice Da Ra.length oa];(try simp only[World.size_alloc]at h);exact h:Bk ((w.alloc (.cells #[.slice Ap s.ps.length cp,.slice Ac s.cap.length cc,.slice Av s.vot.length cv] 25)).alloc (.cells #[.bool ka,.slice Aa Va.length ma,.slice Da Ra.length oa] 29)) (w.heap.size+1) 29 [.bool ka,.slice Aa Va.length ma,.slice Da Ra.length oa]) (.cells #[.bool kb,.slice Ab Vb.length mb,.slice Db Rb.length ob] 29));have hYb1:Hid (Bk (((w.alloc (.cells #[.slice Ap s.ps.length cp,.slice Ac s.cap.length cc,.slice Av s.vot.length cv] 25)).alloc (.cells #[.bool ka,.slice Aa Va.length ma,.slice Da Ra.length oa] 29)).alloc (.cells #[.bool kb,.slice Ab Vb.length mb,.slice Db Rb.length ob] 29)) (w.heap.size+1+1) 29 [.bool kb,.slice Ab Vb.length mb,.slice Db Rb.length ob]):=(by have h:=Bk.new ((w.alloc (.cells #[.slice Ap s.ps.length cp,.slice Ac s.cap.length cc,.slice Av s.vot.length cv] 25)).alloc (.cells #[.bool ka,.slice Aa Va.length ma,.slice Da Ra.length oa] 29)) 29 [.bool kb,.slice Ab Vb.length mb,.slice Db Rb.length ob];(try simp only[World.size_alloc]at h);exact h:Bk (((w.alloc (.cells #[.slice Ap s.ps.length cp,.slice Ac s.cap.length cc,.slice Av s.vot.length cv] 25)).alloc (.cells #[.bool ka,.slice Aa Va.length ma,.slice Da Ra.length oa] 29)).alloc (.cells #[.bool kb,.slice Ab Vb.length mb,.slice Db Rb.length ob] 29)) (w.heap.size+1+1) 29 [.bool kb,.slice Ab Vb.length mb,.slice Db Rb.length ob]);replace hE:=zh hE;replace hs:=zh hs;replace hF:=zh hF;replace hCa:=zh hCa;replace hCb:=zh hCb;go_enter Tryz.func6,Tryz.ntmps6
 go_wp2_with fail
 refine(Dr _ (hE.out.below hB1.out)).mono ?_;rintro e w2 ⟨rfl,hb⟩;have hX2:=zh (hX1.out.below hb);have hB2:=zh (hB1.out.trans (hb.mono hB1.out.size));have hYa2:=zh (hYa1.out.below hb);have hYb2:=zh (hYb1.out.below hb);clear hb hX1 hB1 hYa1 hYb1;have u0:=hX2.out.c0;have u1:=hX2.out.c1;have u2:=hX2.out.c2;have u9:=hX2.out.lt;have ya0:=hYa2.out.c0;have ya1:=hYa2.out.c1;have ya2:=hYa2.out.c2;have ya9:=hYa2.out.lt;have kf:=zh (Ij s Ap Ac Av Aa Da cp cc cv cf ma oa Af F ka Va Ra w2 (hs.out.below hB2.out) hFl (hCa.out.below hB2.out))
 go_wp2_with fail
 refine kf.out.mono ?_;rintro e w3 ⟨⟨r,rfl,hr⟩,hb⟩;have hX3:=zh (hX2.out.below hb);have hB3:=zh (hB2.out.trans (hb.mono hB2.out.size));have hYa3:=zh (hYa2.out.below hb);have hYb3:=zh (hYb2.out.below hb);clear hb hX2 hB2 hYa2 hYb2;clear u0 u1 u2 u9;clear ya0 ya1 ya2 ya9;clear kf;replace hr:=zh hr
 cases r with
 | false =>
   go_wp2;go_ret;exact⟨rfl,hB3.out⟩
 | true =>
   obtain⟨hfs,hF70,hSma⟩:=hr.out rfl;replace hfs:=zh hfs;replace hSma:=zh hSma;clear hr;have yb0:=hYb3.out.c0;have yb1:=hYb3.out.c1;have yb2:=hYb3.out.c2;have yb9:=hYb3.out.lt;have kf:=zh (Tm kb Ab Db mb ob Vb Rb w3 (hCb.out.below hB3.out))
   go_wp2_with fail
   refine kf.out.mono ?_;rintro e w4 ⟨⟨r,rfl,hr⟩,hb⟩;have hX4:=zh (hX3.out.below hb);have hB4:=zh (hB3.out.trans (hb.mono hB3.out.size));have hYa4:=zh (hYa3.out.below hb);have hYb4:=zh (hYb3.out.below hb);clear hb hX3 hB3 hYa3 hYb3;clear yb0 yb1 yb2 yb9;clear kf;replace hr:=zh hr
   cases r with
   | false =>
     go_wp2;go_ret;exact⟨rfl,hB4.out⟩
   | true =>
     have hSmb:=zh (hr.out rfl);clear hr;have ya0:=hYa4.out.c0;have ya9:=hYa4.out.lt
     cases ka with
     | true =>
       go_wp2;go_ret;exact⟨rfl,hB4.out⟩
     | false =>
       have yb0:=hYb4.out.c0;have yb9:=hYb4.out.lt
       cases kb with
       | false =>
         go_wp2;go_ret;exact⟨rfl,hB4.out⟩
       | true =>
         have u0:=hX4.out.c0;have u1:=hX4.out.c1;have u2:=hX4.out.c2;have u9:=hX4.out.lt;clear ya0 ya9;have ya0:=hYa4.out.c0;have ya1:=hYa4.out.c1;have ya2:=hYa4.out.c2;have ya9:=hYa4.out.lt;have kc:=zh (CC s Ap Ac Av Af Aa Da cp cc cv cf ma oa F false Va Ra w4 (hE.out.below hB4.out) (hs.out.below hB4.out) (BO hfs.out) (hF.out.below hB4.out) hFl (hCa.out.below hB4.out))
         go_wp2_with fail
         refine kc.out.mono ?_;rintro e w5 ⟨⟨r,rfl,hr⟩,hb⟩;have hX5:=zh (hX4.out.below hb);have hB5:=zh (hB4.out.trans (hb.mono hB4.out.size));have hYa5:=zh (hYa4.out.below hb);have hYb5:=zh (hYb4.out.below hb);clear hb hX4 hB4 hYa4 hYb4;clear u0 u1 u2 u9;clear ya0 ya1 ya2 ya9;clear yb0 yb9;clear kc;replace hr:=zh hr
         cases r with
         | false =>
           go_wp2;go_ret;exact⟨rfl,hB5.out⟩
         | true =>
           have hKa:=zh (hr.out.1 rfl);clear hr;have u0:=hX5.out.c0;have u1:=hX5.out.c1;have u2:=hX5.out.c2;have u9:=hX5.out.lt;have yb0:=hYb5.out.c0;have yb1:=hYb5.out.c1;have yb2:=hYb5.out.c2;have yb9:=hYb5.out.lt;have kc:=zh (CC s Ap Ac Av Af Ab Db cp cc cv cf mb ob F true Vb Rb w5 (hE.out.below hB5.out) (hs.out.below hB5.out) (BO hfs.out) (hF.out.below hB5.out) hFl (hCb.out.below hB5.out))
           go_wp2_with fail
           refine kc.out.mono ?_;rintro e w6 ⟨⟨r,rfl,hr⟩,hb⟩;have hX6:=zh (hX5.out.below hb);have hB6:=zh (hB5.out.trans (hb.mono hB5.out.size));have hYa6:=zh (hYa5.out.below hb);have hYb6:=zh (hYb5.out.below hb);clear hb hX5 hB5 hYa5 hYb5;clear u0 u1 u2 u9;clear yb0 yb1 yb2 yb9;clear kc;replace hr:=zh hr
           cases r with
           | false =>
             go_wp2;go_ret;exact⟨rfl,hB6.out⟩
           | true =>
             have hKb:=zh (hr.out.1 rfl);clear hr;have ya0:=hYa6.out.c0;have ya1:=hYa6.out.c1;have ya2:=hYa6.out.c2;have ya9:=hYa6.out.lt;have yb0:=hYb6.out.c0;have yb1:=hYb6.out.c1;have yb2:=hYb6.out.c2;have yb9:=hYb6.out.lt;have hla:=hKa.out.len;have hlb:=hKb.out.len;have m1:((Va.length:Int) != (Vb.length:Int))=false:=by rw[bne_eq_false_iff_eq];omega
             have m2:(Va.length != Vb.length)=false:=by rw[bne_eq_false_iff_eq];omega
             have hle:Hid (∀p,p<s.ps.length→BT Va p≤BT Vb p):=hKa.out.blw.meet (AQ hKa.out.sound) hKb.out.abv;have hK0:Hid (Below w6.heap.size w6 w6):=Below.refl _ _
             go_wp2_with fail
             clear ya0 ya1 ya2 ya9;clear yb0 yb1 yb2 yb9
             go_loopw [10] (fun ix wr=>∃(p:Nat),p≤s.ps.length∧ix=.int .i64 (p:Int)∧Hid (Below w6.heap.size w6 wr)) (fun ix _=>s.ps.length-(intOf ix).toNat)
             case atStart=>exact⟨0,Nat.zero_le _,rfl,hK0⟩
             case round =>
              clear hK0;obtain⟨p,hp,rfl,hK⟩:=hrel;obtain⟨wp,rfl⟩:∃z,z=wr:=⟨_,rfl⟩;have hBp:=zh (hB6.out.trans (hK.out.mono hB6.out.size));have hYap:=zh (hYa6.out.below hK.out);have hYbp:=zh (hYb6.out.below hK.out);have ya0:=hYap.out.c0;have ya1:=hYap.out.c1;have ya2:=hYap.out.c2;have ya9:=hYap.out.lt;have yb0:=hYbp.out.c0;have yb1:=hYbp.out.c1;have yb2:=hYbp.out.c2;have yb9:=hYbp.out.lt;have hp47:=hs.out.np
              by_cases hpn:p<s.ps.length
              · have j0:(0:Int)≤(p:Int):=by omega
                have j1:(p:Int)<(Va.length:Int):=by omega
                have j2:(p:Int)<(Vb.length:Int):=by omega
                obtain⟨ba,fa,hAa,x9,hx⟩:=(hCa.out.below hBp.out).row (by omega);subst hAa;obtain⟨x0,x1,x2⟩:=hx p (by omega);have ex:=hKa.out.raw (p:=p) (by omega);rw[ex]at x0 x1 x2;clear hx ex;obtain⟨bb,fb,hAb,z9,hz⟩:=(hCb.out.below hBp.out).row (by omega);subst hAb;obtain⟨z0,z1,z2⟩:=hz p (by omega);have ez:=hKb.out.raw (p:=p) (by omega);rw[ez]at z0 z1 z2;clear hz ez;have hqa:=hle.out p hpn;have sx:=hKa.out.short p;have sy:=hKb.out.short p;obtain⟨qx,hqx⟩:∃q,q=BT Va p:=⟨_,rfl⟩;obtain⟨qz,hqz⟩:∃q,q=BT Vb p:=⟨_,rfl⟩;rw[←hqx]at x0 x1 x2 hqa sx;rw[←hqz]at z0 z1 z2 hqa sy;clear hqx hqz;have kl:Hid (∀W,Env W→Calls Tryz.prog 21 #[.agg #[.bool (rq (qx)).1,.string (rq (qx)).2.1,.string (rq (qx)).2.2],.agg #[.bool (rq (qz)).1,.string (rq (qz)).2.1,.string (rq (qz)).2.2]] W fun e w'=>e=.returned (.bool true)∧Below W.heap.size W w'):=fun W hW=>by have h:=ED qx qz sx sy W hW;rw[decide_eq_true hqa]at h;exact h
                clear hqa sx sy;have HT:Hid (∀W,Below wp.heap.size wp W→(fun W=>W.cell? ⟨w.heap.size+1,1,none⟩=some (.slice (some ⟨ba,fa,none⟩) Va.length ma)∧W.cell? ⟨w.heap.size+1+1,1,none⟩=some (.slice (some ⟨bb,fb,none⟩) Vb.length mb)∧W.cell? ⟨ba,fa+p*3,none⟩=some (.bool (rq (qx)).1)∧W.cell? ⟨ba,fa+p*3+1,none⟩=some (.string (rq (qx)).2.1)∧W.cell? ⟨ba,fa+p*3+2,none⟩=some (.string (rq (qx)).2.2)∧W.cell? ⟨bb,fb+p*3,none⟩=some (.bool (rq (qz)).1)∧W.cell? ⟨bb,fb+p*3+1,none⟩=some (.string (rq (qz)).2.1)∧W.cell? ⟨bb,fb+p*3+2,none⟩=some (.string (rq (qz)).2.2)) W):=fun W h=>⟨(h.cell (p:=⟨w.heap.size+1,1,none⟩) ya9).trans ya1,(h.cell (p:=⟨w.heap.size+1+1,1,none⟩) yb9).trans yb1,(h.cell (p:=⟨ba,fa+p*3,none⟩) x9).trans x0,(h.cell (p:=⟨ba,fa+p*3+1,none⟩) x9).trans x1,(h.cell (p:=⟨ba,fa+p*3+2,none⟩) x9).trans x2,(h.cell (p:=⟨bb,fb+p*3,none⟩) z9).trans z0,(h.cell (p:=⟨bb,fb+p*3+1,none⟩) z9).trans z1,(h.cell (p:=⟨bb,fb+p*3+2,none⟩) z9).trans z2⟩;have hE9:Hid (∀W,Below wp.heap.size wp W→Env W):=fun W h=>hE.out.below (hBp.out.trans (h.mono hBp.out.size));clear x0 x1 x2 x9 z0 z1 z2 z9
                go_wp2_with fail
                clear ya0 ya1 ya2 ya9 yb0 yb1 yb2 yb9;refine AD (by kernel_rfl) (by kernel_rfl) ?_
                repeat (
                 with_reducible refine wpQuiet_step (fun K hK=>?_)
                 first
                  | (refine AY (by rfl) ?_;refine hK _ ?_;clear hK K;(try simp only[Act.put,List.setIfInBounds_toArray,List.set_cons_zero,List.set_cons_succ]))
                  | (refine AZ (by rfl) ?_
                     go_simp;apply Exists.intro;refine⟨fun W hW=>?_,hK _ ?_⟩
                     first
                      | (with_reducible exact A0 hW (kl.out W (hE9.out W hW)))
                      | (obtain⟨q1,q2,q3,q4,q5,q6,q7,q8⟩:=HT.out W hW;go_simp<;>with_reducible rfl)
                     clear hK K))
                refine wpQuiet_nil ?_;intro wf hbz;have hKf:Hid (Below w6.heap.size w6 wf):=hK.out.trans (hbz.mono hK.out.size);clear HT hE9 kl hbz;go_wp2;exact⟨⟨p+1,by omega,by go_num,hKf⟩,by simp only[intOf];omega⟩
              · obtain rfl:p=s.ps.length:=by omega
                have j1:decide ((s.ps.length:Int)<(Va.length:Int))=false:=decide_eq_false (by omega);have j2:decide (s.ps.length<Va.length)=false:=decide_eq_false (by omega);go_wp2;go_ret;exact⟨rfl,hBp.out⟩
end Bd
end Go.Proofs.YtilodknkildkbaaGreatDoor

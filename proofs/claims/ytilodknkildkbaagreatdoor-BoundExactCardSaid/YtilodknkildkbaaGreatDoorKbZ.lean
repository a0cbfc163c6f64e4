/- Texts that the proof needs: LawBExact. -/
import Derived.Deep.RegionHeld3
import Derived.Deep.QuietTactic
import Derived.BigQuiet
import Derived.Test.YtilodknkildkbaaGreatDoorKbA
import Derived.Test.YtilodknkildkbaaGreatDoorKbB
import Derived.Test.YtilodknkildkbaaGreatDoorKbC
import Derived.Test.YtilodknkildkbaaGreatDoorKbD
import Derived.Test.YtilodknkildkbaaGreatDoorKbE
import Derived.Test.YtilodknkildkbaaGreatDoorKbF
import Derived.Test.YtilodknkildkbaaGreatDoorKbG
import Derived.Test.YtilodknkildkbaaGreatDoorKbH
import Derived.Test.YtilodknkildkbaaGreatDoorKbI
import Derived.Test.YtilodknkildkbaaGreatDoorKbJ
import Derived.Test.YtilodknkildkbaaGreatDoorKbK
import Derived.Test.YtilodknkildkbaaGreatDoorKbY
set_option maxHeartbeats 16000000
set_option maxRecDepth 100000
namespace Go.Proofs.YtilodknkildkbaaGreatDoor
open Go.RowKit Go.Shelf
namespace Bd
open Nt Ci Sh
theorem Lc(s:SR) (Ap Ac Av Af:Option Addr) (cp cc cv cf:Nat) (F:List Int) (w:World) (hE:Env w) (hs:StIn w s Ap Ac Av) (hF:InInt w Af F) (hFl:F.length≤140737488355328) :
 Calls Tryz.prog 5 #[.agg #[.slice Ap s.ps.length cp,.slice Ac s.cap.length cc,.slice Av s.vot.length cv],.slice Af F.length cf] w fun e w'=>e=.returned (.bool true)∧Below w.heap.size w w':=by
 have hB1:Hid (Below w.heap.size w (w.alloc (.cells #[.slice Ap s.ps.length cp,.slice Ac s.cap.length cc,.slice Av s.vot.length cv] 25))):=(Below.refl _ w).alloc (Nat.le_refl _) _;have hX1:Hid (Bk (w.alloc (.cells #[.slice Ap s.ps.length cp,.slice Ac s.cap.length cc,.slice Av s.vot.length cv] 25)) w.heap.size 25 (SC s Ap Ac Av cp cc cv)):=(Bk.new w 25 [.slice Ap s.ps.length cp,.slice Ac s.cap.length cc,.slice Av s.vot.length cv]);replace hE:=zh hE;replace hs:=zh hs;replace hF:=zh hF;go_enter Tryz.func5,Tryz.ntmps5
 go_wp2_with fail
 refine(Dr _ (hE.out.below hB1.out)).mono ?_;rintro e w2 ⟨rfl,hb⟩;have hX2:=zh (hX1.out.below hb);have hB2:=zh (hB1.out.trans (hb.mono hB1.out.size));clear hb hX1 hB1;have u0:=hX2.out.c0;have u1:=hX2.out.c1;have u2:=hX2.out.c2;have u9:=hX2.out.lt;have kf:Hid (Calls Tryz.prog 12 #[.agg #[.slice Ap s.ps.length cp,.slice Ac s.cap.length cc,.slice Av s.vot.length cv],.slice Af F.length cf,.agg #[.bool false,.slice none 0 0,.slice none 0 0]] w2 (BPost (fun r=>r=true→DJ s=true∧F.length≤70∧Ii [] []) w2)):=Ij s Ap Ac Av none none cp cc cv cf 0 0 Af F false [] [] w2 (hs.out.below hB2.out) hFl ⟨fun h=>absurd h (by decide),Nv _,by decide,by decide,fun k h=>absurd h (by simp)⟩
 go_wp2_with fail
 refine kf.out.mono ?_;rintro e w3 ⟨⟨r,rfl,hr⟩,hb⟩;have hX3:=zh (hX2.out.below hb);have hB3:=zh (hB2.out.trans (hb.mono hB2.out.size));clear hb hX2 hB2;clear u0 u1 u2 u9;clear kf;replace hr:=zh hr
 cases r with
 | false =>
   go_wp2;go_ret;exact⟨rfl,hB3.out⟩
 | true =>
   obtain⟨hfs,hF70,_⟩:=hr.out rfl;replace hfs:=zh hfs;clear hr;have kE:=fun W (h:Below w.heap.size w W)=>FP s Ap Ac Av Af cp cc cv cf F W (hE.out.below h) (hs.out.below h) (BO hfs.out) (hF.out.below h) hFl
   by_cases hg:(soundB s=true∧listB s.ps.length F=true)∧tooMany s.ps.length (edges s) (toN F)=false
   rotate_left
   · have kB:∃k:Int,k≠0∧∀W,Below w.heap.size w W→Calls Tryz.prog 20 #[.agg #[.slice Ap s.ps.length cp,.slice Ac s.cap.length cc,.slice Av s.vot.length cv],.slice Af F.length cf] W fun e w'=>e=.returned (.tuple #[.slice none 0 0,.int .i64 k])∧Below W.heap.size W w':=by
      by_cases h1:soundB s=true∧listB s.ps.length F=true
      · exact⟨2,by decide,fun W h=>(kE W h).mono fun e w' hh=>⟨by have h2:=hh.1;rw[if_pos h1,if_pos (by cases h3:tooMany s.ps.length (edges s) (toN F)<;>simp_all)]at h2;exact h2,hh.2⟩⟩
      · exact⟨1,by decide,fun W h=>(kE W h).mono fun e w' hh=>⟨by have h2:=hh.1;rw[if_neg h1]at h2;exact h2,hh.2⟩⟩
     clear kE hg;obtain⟨k,hk0,kB⟩:=kB;have kA:=zh (fun W (h:Below w.heap.size w W)=>RA s Ap Ac Av Af cp cc cv cf F W k hk0 fun W2 h2=>kB W2 (h.trans (h2.mono h.size)));have kL:=zh (fun W (h:Below w.heap.size w W)=>RB s Ap Ac Av Af cp cc cv cf F W k hk0 fun W2 h2=>kA.out W2 (h.trans (h2.mono h.size)));have m0:(k != k)=false:=by simp
     have m1:(k != 0)=true:=by rw[bne_iff_ne];exact hk0
     replace kB:=zh kB;replace hk0:=zh hk0;have u0:=hX3.out.c0;have u1:=hX3.out.c1;have u2:=hX3.out.c2;have u9:=hX3.out.lt
     go_wp2_with fail
     refine(kB.out w3 hB3.out).mono ?_;rintro e w4 ⟨rfl,hb⟩;have hX4:=zh (hX3.out.below hb);have hB4:=zh (hB3.out.trans (hb.mono hB3.out.size));clear hb hX3 hB3;clear u0 u1 u2 u9;have u0:=hX4.out.c0;have u1:=hX4.out.c1;have u2:=hX4.out.c2;have u9:=hX4.out.lt
     go_wp2_with fail
     refine(kL.out w4 hB4.out).mono ?_;rintro e w5 ⟨rfl,hb⟩;have hX5:=zh (hX4.out.below hb);have hB5:=zh (hB4.out.trans (hb.mono hB4.out.size));clear hb hX4 hB4;clear u0 u1 u2 u9;have zX:=hX5.out.alloc (.cells #[.bool false,.slice none 0 0,.slice none 0 0] 29);have zX0:=zX.c0;have zX1:=zX.c1;have zX2:=zX.c2;have zX9:=zX.lt;clear zX;obtain⟨w6,hw6⟩:∃X,X=w5.alloc (.cells #[.bool false,.slice none 0 0,.slice none 0 0] 29):=⟨_,rfl⟩;have hb:Below w5.heap.size w5 w6:=by rw[hw6];exact(Below.refl _ _).alloc (Nat.le_refl _) _
     obtain⟨bt,hbt⟩:∃x,x=w5.heap.size:=⟨_,rfl⟩;have hYt:Bk w6 bt 29 [.bool false,.slice none 0 0,.slice none 0 0]:=by rw[hw6,hbt];exact Bk.new _ _ _
     have hX6:=zh (hX5.out.below hb);have hB6:=zh (hB5.out.trans (hb.mono hB5.out.size));clear hb hX5 hB5;have hYt6:=zh hYt;clear hYt
     go_wp2_with fail
     rw[←hw6];rw[←hbt];replace hw6:=zh hw6;replace hbt:=zh hbt;clear zX0 zX1 zX2 zX9;refine(kA.out w6 hB6.out).mono ?_;rintro e w7 ⟨rfl,hb⟩;have hX7:=zh (hX6.out.below hb);have hB7:=zh (hB6.out.trans (hb.mono hB6.out.size));have hYt7:=zh (hYt6.out.below hb);clear hb hX6 hB6 hYt6;have zYt:=hYt7.out.alloc (.cells #[.bool false,.slice none 0 0,.slice none 0 0] 29);have zYt0:=zYt.c0;have zYt1:=zYt.c1;have zYt2:=zYt.c2;have zYt9:=zYt.lt;clear zYt;obtain⟨w8,hw8⟩:∃X,X=w7.alloc (.cells #[.bool false,.slice none 0 0,.slice none 0 0] 29):=⟨_,rfl⟩;have hb:Below w7.heap.size w7 w8:=by rw[hw8];exact(Below.refl _ _).alloc (Nat.le_refl _) _
     obtain⟨bv,hbv⟩:∃x,x=w7.heap.size:=⟨_,rfl⟩;have hYv:Bk w8 bv 29 [.bool false,.slice none 0 0,.slice none 0 0]:=by rw[hw8,hbv];exact Bk.new _ _ _
     have hX8:=zh (hX7.out.below hb);have hB8:=zh (hB7.out.trans (hb.mono hB7.out.size));have hYt8:=zh (hYt7.out.below hb);clear hb hX7 hB7 hYt7;have hYv8:=zh hYv;clear hYv;have q0:=hYv8.out.c1;have q1:=hYv8.out.c2;have q9:=hYv8.out.lt;rw[hw8,hbv]at q0 q1 q9;go_wp2;rw[←hw8];go_ret;exact⟨rfl,hB8.out⟩
   · clear kE;have hH:=fun W (h:Below w.heap.size w W)=>And.intro (hE.out.below h) (And.intro (hs.out.below h) (hF.out.below h));have hc3:=BO hfs.out;have kG:=fun W (h:Below w.heap.size w W)=>Um s Ap Ac Av Af cp cc cv cf F W (hH W h).1 (hH W h).2.1 hc3 (hH W h).2.2 hFl hg;have kR:=fun W (h:Below w.heap.size w W)=>RM s Ap Ac Av Af cp cc cv cf F W (hH W h).1 (hH W h).2.1 hc3 (hH W h).2.2 hFl hg;have kA:=zh (fun W (h:Below w.heap.size w W)=>KW s Ap Ac Av Af cp cc cv cf F W _ fun W2 h2=>kG W2 (h.trans (h2.mono h.size)));have kL:=zh (fun W (h:Below w.heap.size w W)=>KX s Ap Ac Av Af cp cc cv cf F W _ _ (fun W2 h2=>kA.out W2 (h.trans (h2.mono h.size))) fun W2 h2=>kR W2 (h.trans (h2.mono h.size)));have kU:=zh (fun W (h:Below w.heap.size w W) (b:Nat)=>OY s Ap Ac Av Af cp cc cv cf F W (hH W h).1 (hH W h).2.1 hc3 (hH W h).2.2 hFl hg (ea:=b));have kD:=zh (fun W (h:Below w.heap.size w W) (b c:Nat)=>OX s Ap Ac Av Af cp cc cv cf F W (hH W h).1 (hH W h).2.1 hc3 (hH W h).2.2 hFl hg (ea:=b) (ra:=c));replace kG:=zh kG;replace hg:=zh hg;clear kR hH;have u0:=hX3.out.c0;have u1:=hX3.out.c1;have u2:=hX3.out.c2;have u9:=hX3.out.lt
     go_wp2_with fail
     refine(kG.out w3 hB3.out).mono ?_;rintro e w4 ⟨⟨ev0,rfl,hRowv,_⟩,hb⟩;have hX4:=zh (hX3.out.below hb);have hB4:=zh (hB3.out.trans (hb.mono hB3.out.size));clear hb hX3 hB3;have hRowv4:=zh hRowv;clear hRowv;clear u0 u1 u2 u9;have u0:=hX4.out.c0;have u1:=hX4.out.c1;have u2:=hX4.out.c2;have u9:=hX4.out.lt
     go_wp2_with fail
     refine(kL.out w4 hB4.out).mono ?_;rintro e w5 ⟨⟨ea,ra,rfl,hRowa,hRoi⟩,hb⟩;have hX5:=zh (hX4.out.below hb);have hB5:=zh (hB4.out.trans (hb.mono hB4.out.size));have hRowv5:=zh (hRowv4.out.below hb hRowv4.out.lt);clear hb hX4 hB4 hRowv4;have hRowa5:=zh hRowa;clear hRowa;have hRoi5:=zh hRoi;clear hRoi;clear u0 u1 u2 u9;have zX:=hX5.out.alloc (.cells #[.bool false,.slice (some ⟨ea,0,none⟩) s.ps.length s.ps.length,.slice (some ⟨ra,0,none⟩) s.ps.length s.ps.length] 29);have zX0:=zX.c0;have zX1:=zX.c1;have zX2:=zX.c2;have zX9:=zX.lt;clear zX;obtain⟨w6,hw6⟩:∃X,X=w5.alloc (.cells #[.bool false,.slice (some ⟨ea,0,none⟩) s.ps.length s.ps.length,.slice (some ⟨ra,0,none⟩) s.ps.length s.ps.length] 29):=⟨_,rfl⟩;have hb:Below w5.heap.size w5 w6:=by rw[hw6];exact(Below.refl _ _).alloc (Nat.le_refl _) _
     obtain⟨bt,hbt⟩:∃x,x=w5.heap.size:=⟨_,rfl⟩;have hYt:Bk w6 bt 29 [.bool false,.slice (some ⟨ea,0,none⟩) s.ps.length s.ps.length,.slice (some ⟨ra,0,none⟩) s.ps.length s.ps.length]:=by rw[hw6,hbt];exact Bk.new _ _ _
     have hX6:=zh (hX5.out.below hb);have hB6:=zh (hB5.out.trans (hb.mono hB5.out.size));have hRowv6:=zh (hRowv5.out.below hb hRowv5.out.lt);have hRowa6:=zh (hRowa5.out.below hb hRowa5.out.lt);have hRoi6:=zh (hRoi5.out.below hb);clear hb hX5 hB5 hRowv5 hRowa5 hRoi5;have hYt6:=zh hYt;clear hYt
     go_wp2_with fail
     rw[←hw6];rw[←hbt];replace hw6:=zh hw6;replace hbt:=zh hbt;clear zX0 zX1 zX2 zX9;refine(kA.out w6 hB6.out).mono ?_;rintro e w7 ⟨⟨ec,rfl,hRowc,_⟩,hb⟩;have hX7:=zh (hX6.out.below hb);have hB7:=zh (hB6.out.trans (hb.mono hB6.out.size));have hRowv7:=zh (hRowv6.out.below hb hRowv6.out.lt);have hRowa7:=zh (hRowa6.out.below hb hRowa6.out.lt);have hRoi7:=zh (hRoi6.out.below hb);have hYt7:=zh (hYt6.out.below hb);clear hb hX6 hB6 hRowv6 hRowa6 hRoi6 hYt6;have hRowc7:=zh hRowc;clear hRowc;have zYt:=hYt7.out.alloc (.cells #[.bool true,.slice (some ⟨ec,0,none⟩) s.ps.length s.ps.length,.slice none 0 0] 29);have zYt0:=zYt.c0;have zYt1:=zYt.c1;have zYt2:=zYt.c2;have zYt9:=zYt.lt;clear zYt;obtain⟨w8,hw8⟩:∃X,X=w7.alloc (.cells #[.bool true,.slice (some ⟨ec,0,none⟩) s.ps.length s.ps.length,.slice none 0 0] 29):=⟨_,rfl⟩;have hb:Below w7.heap.size w7 w8:=by rw[hw8];exact(Below.refl _ _).alloc (Nat.le_refl _) _
     obtain⟨bv,hbv⟩:∃x,x=w7.heap.size:=⟨_,rfl⟩;have hYv:Bk w8 bv 29 [.bool true,.slice (some ⟨ec,0,none⟩) s.ps.length s.ps.length,.slice none 0 0]:=by rw[hw8,hbv];exact Bk.new _ _ _
     have hX8:=zh (hX7.out.below hb);have hB8:=zh (hB7.out.trans (hb.mono hB7.out.size));have hRowv8:=zh (hRowv7.out.below hb hRowv7.out.lt);have hRowa8:=zh (hRowa7.out.below hb hRowa7.out.lt);have hRoi8:=zh (hRoi7.out.below hb);have hYt8:=zh (hYt7.out.below hb);have hRowc8:=zh (hRowc7.out.below hb hRowc7.out.lt);clear hb hX7 hB7 hRowv7 hRowa7 hRoi7 hYt7 hRowc7;have hYv8:=zh hYv;clear hYv;have q0:=hYv8.out.c0;have q1:=hYv8.out.c1;have q2:=hYv8.out.c2;have q9:=hYv8.out.lt;rw[hw8,hbv]at q0 q1 q2 q9;have hp47:=hs.out.np;have m1:((s.ps.length:Int) != (s.ps.length:Int))=false:=by simp
     go_wp2_with fail
     rw[←hw8];rw[←hbv];replace hw8:=zh hw8;replace hbv:=zh hbv;clear zYt0 zYt1 zYt2 zYt9;clear q0 q1 q2 q9;refine(Ik hRowa8.out hRowv8.out (by omega)).mono ?_;rintro e w9 ⟨rfl,hb⟩;have hX9:=zh (hX8.out.below hb);have hB9:=zh (hB8.out.trans (hb.mono hB8.out.size));have hRowv9:=zh (hRowv8.out.below hb hRowv8.out.lt);have hRowa9:=zh (hRowa8.out.below hb hRowa8.out.lt);have hRoi9:=zh (hRoi8.out.below hb);have hYt9:=zh (hYt8.out.below hb);have hRowc9:=zh (hRowc8.out.below hb hRowc8.out.lt);have hYv9:=zh (hYv8.out.below hb);clear hb hX8 hB8 hRowv8 hRowa8 hRoi8 hYt8 hRowc8 hYv8;have yv0:=hYv9.out.c0;have yv1:=hYv9.out.c1;have yv2:=hYv9.out.c2;have yv9:=hYv9.out.lt
     go_wp2_with fail
     clear yv0 yv1 yv2 yv9;refine(Ik hRowc9.out hRowv9.out (by omega)).mono ?_;rintro e w10 ⟨rfl,hb⟩;have hX10:=zh (hX9.out.below hb);have hB10:=zh (hB9.out.trans (hb.mono hB9.out.size));have hRowv10:=zh (hRowv9.out.below hb hRowv9.out.lt);have hRowa10:=zh (hRowa9.out.below hb hRowa9.out.lt);have hRoi10:=zh (hRoi9.out.below hb);have hYt10:=zh (hYt9.out.below hb);have hRowc10:=zh (hRowc9.out.below hb hRowc9.out.lt);have hYv10:=zh (hYv9.out.below hb);clear hb hX9 hB9 hRowv9 hRowa9 hRoi9 hYt9 hRowc9 hYv9;have hK0:Hid (Below w10.heap.size w10 w10):=Below.refl _ _
     go_wp2_with fail
     go_loopw [12] (fun ix wr=>∃(p:Nat),p≤s.ps.length∧ix=.int .i64 (p:Int)∧Hid (Below w10.heap.size w10 wr)) (fun ix _=>s.ps.length-(intOf ix).toNat)
     case atStart=>exact⟨0,Nat.zero_le _,rfl,hK0⟩
     case round =>
      clear hK0;obtain⟨p,hp,rfl,hK⟩:=hrel;obtain⟨wp,rfl⟩:∃z,z=wr:=⟨_,rfl⟩;have hBp:=zh (hB10.out.trans (hK.out.mono hB10.out.size));have hYtp:=zh (hYt10.out.below hK.out);have hYvp:=zh (hYv10.out.below hK.out);have hXp:=zh (hX10.out.below hK.out);have hRoip:=zh (hRoi10.out.below hK.out);have hRowvp:=zh (hRowv10.out.below hK.out hRowv10.out.lt);have hRowap:=zh (hRowa10.out.below hK.out hRowa10.out.lt);have hRowcp:=zh (hRowc10.out.below hK.out hRowc10.out.lt)
      by_cases hpn:p<s.ps.length
      · have j0:(0:Int)≤(p:Int):=by omega
        have j1:(p:Int)<(s.ps.length:Int):=by omega
        obtain⟨x0,x1,x2⟩:=hRowvp.out.cell hpn;have x9:=hRowvp.out.lt;have y2:=hYtp.out.c2;have y9:=hYtp.out.lt;have z0:=hRoip.out.cell p hpn;have z9:=hRoip.out.lt;have hps:=Ul hg.out.1.1 hg.out.2 hpn;have hnz:=Ib (ev s F p);obtain⟨nn,hnn⟩:∃x,x=(rq (ev s F p)).2.1:=⟨_,rfl⟩;obtain⟨rr,hrr⟩:∃x,x=rk (edges s) (toN F) p:=⟨_,rfl⟩;rw[←hnn]at x1 hnz;rw[←hrr]at z0 hps;clear x0 x2 hnn hrr;obtain⟨t,ht⟩:∃t,t=decide (ev s F p=0):=⟨_,rfl⟩;rw[←ht]at hnz;have hr0:decide ((0:Int)≤rr)=!t:=by rw[ht];by_cases c:ev s F p=0<;>simp_all
        replace ht:=zh ht;replace hps:=zh hps;have HT:Hid (∀W,Below wp.heap.size wp W→(fun W=>W.cell? ⟨bt,2,none⟩=some (.slice (some ⟨ra,0,none⟩) s.ps.length s.ps.length)∧W.cell? ⟨ev0,p*3+1,none⟩=some (.string nn)∧W.cell? ⟨ra,p,none⟩=some (.int .i64 rr)) W):=fun W h=>⟨(h.cell (p:=⟨bt,2,none⟩) y9).trans y2,(h.cell (p:=⟨ev0,p*3+1,none⟩) x9).trans x1,(h.cell (p:=⟨ra,p,none⟩) z9).trans z0⟩;clear x1 x9 y2 y9 z0 z9
        go_wp2_with fail
        refine AD (by kernel_rfl) (by kernel_rfl) ?_
        repeat (
         with_reducible refine wpQuiet_step (fun K hK=>?_)
         first
          | (refine AY (by rfl) ?_;refine hK _ ?_;clear hK K;(try simp only[Act.put,List.setIfInBounds_toArray,List.set_cons_zero,List.set_cons_succ]))
          | (refine AZ (by rfl) ?_
             go_simp;apply Exists.intro;refine⟨fun W hW=>?_,hK _ ?_⟩
             first
              | (with_reducible exact(trivial:True))
              | (obtain⟨q1,q2,q3⟩:=HT.out W hW;go_simp<;>with_reducible rfl)
             clear hK K))
        refine wpQuiet_nil ?_;intro wf hbz;have hKf:Hid (Below w10.heap.size w10 wf):=hK.out.trans (hbz.mono hK.out.size);clear HT hbz
        cases t<;>(go_wp2;exact⟨⟨p+1,by omega,by go_num,hKf⟩,by simp only[intOf];omega⟩)
      · obtain rfl:p=s.ps.length:=by omega
        have y0:=hYtp.out.c0;have y1:=hYtp.out.c1;have y2:=hYtp.out.c2;have y9:=hYtp.out.lt;have u0:=hXp.out.c0;have u1:=hXp.out.c1;have u2:=hXp.out.c2;have u9:=hXp.out.lt;have k1:=kD.out wp hBp.out ea ra hRowap.out hRoip.out
        go_wp2_with fail
        refine k1.mono ?_;rintro e we ⟨rfl,hb⟩;have hBe:=zh (hBp.out.trans (hb.mono hBp.out.size));have hXe:=zh (hXp.out.below hb);have hYve:=zh (hYvp.out.below hb);have hRe:=zh (hRowcp.out.below hb hRowcp.out.lt);clear k1 hb y0 y1 y2 y9 u0 u1 u2 u9;have y0:=hYve.out.c0;have y1:=hYve.out.c1;have y2:=hYve.out.c2;have y9:=hYve.out.lt;have u0:=hXe.out.c0;have u1:=hXe.out.c1;have u2:=hXe.out.c2;have u9:=hXe.out.lt;have k1:=kU.out we hBe.out ec hRe.out
        go_wp2_with fail
        refine k1.mono ?_;rintro e wg ⟨rfl,hb⟩;have hBg:=zh (hBe.out.trans (hb.mono hBe.out.size));clear k1 hb y0 y1 y2 y9 u0 u1 u2 u9;go_wp2;go_ret;exact⟨rfl,hBg.out⟩
end Bd
end Go.Proofs.YtilodknkildkbaaGreatDoor

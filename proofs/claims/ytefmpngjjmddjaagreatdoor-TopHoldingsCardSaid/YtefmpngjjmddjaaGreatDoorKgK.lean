/- Parts of the proof. -/
import Derived.WideKeyEntry
import Derived.Shelf.SlSortCmp.NoneTotal
import Derived.Test.YtefmpngjjmddjaaGreatDoorKgJ
set_option maxHeartbeats 16000000
set_option maxRecDepth 1000000
open Go.Proofs.Tryz
namespace Go.Proofs.YtefmpngjjmddjaaGreatDoor
theorem tkgK{P:Program}{md:Region.Mode}{ops:Array Oper}{Q:Exit->Act->World->Prop}{S:World->Prop}{oi:Oper}{v:Value}{fuel:Nat}{listed:Array Bool}{a:Act}{w:World}(i:Nat)(hi:ops[i]?=some oi)(hS:S w)(hy:YieldsIf P ops S oi v a)(h:wpAnyH P md ops Q S fuel (listed.setIfInBounds i true) (a.put oi.dst v) w)(hs:Region.noSelect ops=true:=by kernel_rfl)(hf:Region.free md ops listed i=true:=by kernel_rfl)(hr:(Region.ready md ops listed).contains i=true:=by kernel_rfl)(hQ:∀c a w,Q (.panic c) (a.put oi.dst v) w->Q (.panic c) a w:=by exact fun _ _ _ h=>h):wpAnyH P md ops Q S (fuel+1) listed a w:=xY hi hs hf hr hQ hy hS h
section
open Go.RowKit Go.Shelf
namespace Co
open Nt Ci
def KC(s:SR)(F:List Int)(w:World)(e:Ending)(w':World):Prop :=
 (if Ao s=true/\AZ s.ps.length F=true then ∃b,e=.returned (.tuple #[.slice (some ⟨b,0,none⟩) s.ps.length s.ps.length,.int .i64 0])/\w.heap.size<=b/\RoI w' b s.ps.length (rd (VT s) (toN F))
   else e=.returned (.tuple #[.slice none 0 0,.int .i64 1]))/\Below w.heap.size w w'
theorem Dw(s:SR)(Ap Ac Av Af:Option Addr)(cp cc cv cf:Nat)(F:List Int)(w:World)(hE:Env w)(hs:StIn w s Ap Ac Av)(an:s.cap.length<=300)(ah:s.vot.length<=300)(hF:InInt w Af F)(ak:F.length<=140737488355328):
 Calls prog 13 #[.agg #[.slice Ap s.ps.length cp,.slice Ac s.cap.length cc,.slice Av s.vot.length cv],.slice Af F.length cf] w (KC s F w):=by
 have ae:Hid (Bk (w.alloc (.cells #[.slice Ap s.ps.length cp,.slice Ac s.cap.length cc,.slice Av s.vot.length cv] 32)) w.heap.size 32 (SC s Ap Ac Av cp cc cv)):=Bk.new w _ _;have d:Hid (Below w.heap.size w (w.alloc (.cells #[.slice Ap s.ps.length cp,.slice Ac s.cap.length cc,.slice Av s.vot.length cv] 32))):=(zI _ w).alloc (zB _) _;have u0:=ae.o.c0;have u1:=ae.o.c1;have u2:=ae.o.c2;have u9:=ae.o.lt;have kb:=Qe s Ap Ac Av Af cp cc cv cf F _ (hE.below d.o) (hs.below d.o) an ah (hF.below d.o) ak
 by_cases hgd:Ao s=true/\AZ s.ps.length F=true
 .have aa:Calls prog 40 #[.agg #[.slice Ap s.ps.length cp,.slice Ac s.cap.length cc,.slice Av s.vot.length cv],.slice Af F.length cf] (w.alloc (.cells #[.slice Ap s.ps.length cp,.slice Ac s.cap.length cc,.slice Av s.vot.length cv] 32)) fun e w'=>(∃xb b,e=.returned (.tuple #[.pointer (some ⟨xb,0,none⟩),.int .i64 0])/\Se s (w.alloc (.cells #[.slice Ap s.ps.length cp,.slice Ac s.cap.length cc,.slice Av s.vot.length cv] 32)).heap.size w' xb b (fun x=>if x∈toN F then 0 else -1))/\Below (w.alloc (.cells #[.slice Ap s.ps.length cp,.slice Ac s.cap.length cc,.slice Av s.vot.length cv] 32)).heap.size (w.alloc (.cells #[.slice Ap s.ps.length cp,.slice Ac s.cap.length cc,.slice Av s.vot.length cv] 32)) w':=kb.mono fun e w' h=>⟨by have h1:=h.1;rw[zD hgd]at h1;exact h1,h.2⟩;clear kb;have hP:Hid (∀e W,(∃b,e=.returned (.tuple #[.slice (some ⟨b,0,none⟩) s.ps.length s.ps.length,.int .i64 0])/\w.heap.size<=b/\RoI W b s.ps.length (rd (VT s) (toN F)))->Below w.heap.size w W->KC s F w e W):=fun e W h1 h2=>⟨by rw[zD hgd];exact h1,h2⟩;obtain⟨W1,ab⟩:∃W,W=w.alloc (.cells #[.slice Ap s.ps.length cp,.slice Ac s.cap.length cc,.slice Av s.vot.length cv] 32):=⟨_,rfl⟩;have kr:=zh (fun xb b W h1 h2=>UQ s xb b (toN F) W1 W (by rw[ab];exact hE.below d.o) h1 hgd.1 ah h2);rw[<-ab]at aa;replace aa:=zh aa;replace hgd:=zh hgd;go_enter func13,ntmps13
  go_wp2_with fail
  rw[<-ab];rw[<-ab]at d;replace ab:=zh ab;refine aa.o.mono ?_;rintro e w2 ⟨⟨xb,b,rfl,hS⟩,hb⟩;have af:=zh hb;replace hS:=zh hS;clear hb u0 u1 u2 u9 aa
  go_wp2_with fail
  refine(kr.o xb b w2 af.o hS.o).mono ?_;rintro e w3 ⟨rfl,⟨R,B,v,h1,h2,ad⟩,ag⟩;have aj:Hid (Below w.heap.size w w3):=d.o.trans (ag.mono d.o.size);have x0:=ad.x.c1;have x9:=ad.x.lt;have al:=zh ad.r;have am:Hid (w.heap.size<=b):=zS d.o.size (zS h1 ad.lb);clear hS af ag ad h1 h2;go_wp2;go_ret2;exact hP.o _ _ ⟨b,rfl,am.o,al.o⟩ aj.o
 have aa:Calls prog 40 #[.agg #[.slice Ap s.ps.length cp,.slice Ac s.cap.length cc,.slice Av s.vot.length cv],.slice Af F.length cf] (w.alloc (.cells #[.slice Ap s.ps.length cp,.slice Ac s.cap.length cc,.slice Av s.vot.length cv] 32)) fun e w'=>e=.returned (.tuple #[.pointer none,.int .i64 1])/\Below (w.alloc (.cells #[.slice Ap s.ps.length cp,.slice Ac s.cap.length cc,.slice Av s.vot.length cv] 32)).heap.size (w.alloc (.cells #[.slice Ap s.ps.length cp,.slice Ac s.cap.length cc,.slice Av s.vot.length cv] 32)) w':=kb.mono fun e w' h=>⟨by have h1:=h.1;rw[zC hgd]at h1;exact h1,h.2⟩;clear kb;have hP:Hid (∀e W,e=.returned (.tuple #[.slice none 0 0,.int .i64 1])->Below w.heap.size w W->KC s F w e W):=fun e W h1 h2=>⟨by rw[zC hgd];exact h1,h2⟩;replace aa:=zh aa;replace hgd:=zh hgd;go_enter func13,ntmps13
 go_wp2_with fail
 refine aa.o.q fun w2 hb=>?_;have ai:=d.t hb;clear hb u0 u1 u2 u9 aa;go_wp2;go_ret2;exact hP.o _ _ rfl ai.o
end Co
end
section
open Go.RowKit Go.Shelf
namespace Rg
open Nt Ci
theorem IS(A:Option Addr)(ca:Nat)(l:List Int)(x:Int)(w:World)(hA:InInt w A l)(hl:l.length<=140737488355328):
 Calls prog 53 #[.slice A l.length ca,.int .i64 x] w fun e w'=>e=.returned (.bool (decide (x∈l)))/\w'=w:=by
 have k:=zh (Sh.J3 A ca l x w hA hl)
 have hm:Hid (decide (0<=Sh.GA l x)=decide (x∈l)):=by
  unfold Sh.GA
  by_cases h:x∈l
  .rw[zD h,zG h,zG (by omega)];exact rfl
  rw[zC h,zH h];exact rfl
 replace hA:=zh hA;go_enter func53,ntmps53
 go_wp2_with fail
 refine k.o.mono ?_;rintro e w1 ⟨rfl,rfl⟩;clear k;go_wp2;go_ret;exact⟨Ad hm.o,rfl⟩
theorem Wp{pc:Int}(h:1<=pc/\pc<=100):ShortQ (ofQ pc 100):=by
 have e:ofQ pc 100=mkRat pc 100:=by
  unfold ofQ;have e:(!(decide (pc<0)==decide ((100:Int)<0)))=false:=by rw[zH (by omega:¬pc<0)];rfl
  rw[e]
  show mkRat (pc.natAbs:Int) 100=mkRat pc 100
  congr 1
  omega
 rw[e];refine⟨?_,?_⟩
 .rw[Rat.num_mkRat,zC (by decide)];exact Co.Gi (yA (Int.natAbs_ediv_le_natAbs _ _) (by omega))
 rw[Rat.den_mkRat,zC (by decide)];exact Co.Gi (yA (wR _ _) (by decide))
theorem Vx{c:Bool}{A B:Prop}(h:c=false)(hb:B):if c=true then A else B:=by subst h;exact hb
theorem Vy{c:Bool}{A B:Prop}(h:c=true)(ha:A):if c=true then A else B:=by subst h;exact ha
section
variable (day pc p:Int) (pa:ByteArray) (Al Ap Ac Av Aw Ae:Option Addr) (nl np nc nv nw ne cl cp cc cv cw ce:Nat)
abbrev Wq:List Value:=[.int .i64 day,.slice Al nl cl,.string pa,.int .i64 pc,.slice Ap np cp,.slice Ac nc cc,.slice Av nv cv,.slice Aw nw cw,.int .i64 p,.slice Ae ne ce]
end
theorem test1(day pc p:Int)(pa:ByteArray)(Al Ap Ac Av Aw Ae:Option Addr)(nl np nc nv ne cl cp cc cv cw ce:Nat)(F:List Int)(w:World)(hF:InInt w Aw F)(hl:F.length<=140737488355328):
 Calls prog 125 #[.agg #[.int .i64 day,.slice Al nl cl,.string pa,.int .i64 pc,.slice Ap np cp,.slice Ac nc cc,.slice Av nv cv,.slice Aw F.length cw,.int .i64 p,.slice Ae ne ce]] w
  fun e w'=>e=.returned (.bool (decide (p∈F)))/\Below w.heap.size w w':=by
 have hX:Hid (Bk (w.alloc (.cells #[.int .i64 day,.slice Al nl cl,.string pa,.int .i64 pc,.slice Ap np cp,.slice Ac nc cc,.slice Av nv cv,.slice Aw F.length cw,.int .i64 p,.slice Ae ne ce] 147)) w.heap.size 147 (Wq day pc p pa Al Ap Ac Av Aw Ae nl np nc nv F.length ne cl cp cc cv cw ce)):=Bk.new w _ _;have hB:Hid (Below w.heap.size w (w.alloc (.cells #[.int .i64 day,.slice Al nl cl,.string pa,.int .i64 pc,.slice Ap np cp,.slice Ac nc cc,.slice Av nv cv,.slice Aw F.length cw,.int .i64 p,.slice Ae ne ce] 147))):=(zI _ w).alloc (zB _) _;have kc:=zh (IS Aw cw F p _ (hF.below hB.o) hl);have x7:=hX.o.c7;have x8:=hX.o.cell (j:=8) rfl;have x9:=hX.o.lt;replace hF:=zh hF;go_enter func125,ntmps125
 go_wp2_with fail
 refine kc.o.mono ?_;rintro e w1 ⟨rfl,rfl⟩;clear kc;go_wp2;go_ret;exact⟨rfl,hB.o⟩
theorem Xq(day pc:Int)(pa:ByteArray)(Al Ap Ac Av Aw:Option Addr)(nl np nc nv nw cl cp cc cv cw ce eb n k:Nat)(v:Nat->Rat)(w:World)(hE:Env w)(hk:k<n)(_hn:n<=140737488355328)(hR:RowB w eb n fun p=>rq (v p))(hs:ShortQ (v k))(ao:1<=pc/\pc<=100):
 Calls prog 126 #[.agg #[.int .i64 day,.slice Al nl cl,.string pa,.int .i64 pc,.slice Ap np cp,.slice Ac nc cc,.slice Av nv cv,.slice Aw nw cw,.int .i64 (k:Int),.slice (some ⟨eb,0,none⟩) n ce]] w
  fun e w'=>e=.returned (.bool (decide (0<=Ki (v k) (ofQ pc 100))))/\Below w.heap.size w w':=by
 have hX:Hid (Bk (w.alloc (.cells #[.int .i64 day,.slice Al nl cl,.string pa,.int .i64 pc,.slice Ap np cp,.slice Ac nc cc,.slice Av nv cv,.slice Aw nw cw,.int .i64 (k:Int),.slice (some ⟨eb,0,none⟩) n ce] 147)) w.heap.size 147 (Wq day pc k pa Al Ap Ac Av Aw (some ⟨eb,0,none⟩) nl np nc nv nw n cl cp cc cv cw ce)):=Bk.new w _ _;have hB:Hid (Below w.heap.size w (w.alloc (.cells #[.int .i64 day,.slice Al nl cl,.string pa,.int .i64 pc,.slice Ap np cp,.slice Ac nc cc,.slice Av nv cv,.slice Aw nw cw,.int .i64 (k:Int),.slice (some ⟨eb,0,none⟩) n ce] 147))):=(zI _ w).alloc (zB _) _;have kr:=zh (EY pc 100 (by omega) (by omega) (by omega) (by omega) (by omega) _ (hE.below hB.o));have hq:=Wp ao;have kc:=zh (fun W (h:Env W)=>Fu (v k) (ofQ pc 100) hs hq W h);obtain⟨g2,n2,d2,ad⟩:∃g n d,qv (ofQ pc 100)=.agg #[.bool g,.string n,.string d]:=⟨_,_,_,rfl⟩;obtain⟨g1,n1,d1,af,ag⟩:∃g n d,qv (v k)=.agg #[.bool g,.string n,.string d]/\rq (v k)=(g,n,d):=⟨_,_,_,rfl,rfl⟩;rw[ad]at kr;rw[af,ad]at kc;replace af:=zh af;replace ad:=zh ad;replace ag:=zh ag;have x3:=hX.o.c3;have x9:=hX.o.lt;replace hE:=zh hE;replace hR:=zh hR;replace hs:=zh hs;replace hq:=zh hq;go_enter func126,ntmps126
 go_wp2_with fail
 refine kr.o.q fun w1 hb=>?_;clear kr x3 x9;have an:=zh (hX.o.below hb);have ah:Hid (Below w.heap.size w w1):=hB.o.trans (hb.mono hB.o.size);clear hb hX hB;have ai:Hid (Bk (w1.alloc (.cells #[.bool g2,.string n2,.string d2] 48)) w1.heap.size 48 [.bool g2,.string n2,.string d2]):=Bk.new _ _ _;have ak:=zh (an.o.alloc (.cells #[.bool g2,.string n2,.string d2] 48));have aa:Hid (Below w.heap.size w (w1.alloc (.cells #[.bool g2,.string n2,.string d2] 48))):=ah.o.alloc ah.o.size _
 have HS:Hid (∀W,Below (w1.alloc (.cells #[.bool g2,.string n2,.string d2] 48)).heap.size (w1.alloc (.cells #[.bool g2,.string n2,.string d2] 48)) W->W.cell? ⟨w.heap.size,9,none⟩=some (.slice (some ⟨eb,0,none⟩) n ce)/\W.cell? ⟨w.heap.size,8,none⟩=some (.int .i64 (k:Int))/\w.heap.size<W.heap.size /\
  W.cell? ⟨eb,k*3,none⟩=some (.bool g1)/\W.cell? ⟨eb,k*3+1,none⟩=some (.string n1)/\W.cell? ⟨eb,k*3+2,none⟩=some (.string d1)/\eb<W.heap.size/\W.cell? ⟨w1.heap.size,0,none⟩=some (.bool g2)/\W.cell? ⟨w1.heap.size,1,none⟩=some (.string n2)/\W.cell? ⟨w1.heap.size,2,none⟩=some (.string d2)/\w1.heap.size<W.heap.size/\Env W):=fun W hW=>by
  have ae:=ak.o.below hW;have ab:=ai.o.below hW;have aj:=(hR.o.below aa.o hR.o.lt).below hW (by have:=hR.o.lt;have:=aa.o.size;omega);obtain⟨c0,c1,c2⟩:=aj.cell hk;rw[ag.o]at c0 c1 c2;exact⟨ae.cell (j:=9) rfl,ae.cell (j:=8) rfl,ae.lt,c0,c1,c2,aj.lt,ab.c0,ab.c1,ab.c2,ab.lt,(hE.o.below aa.o).below hW⟩
 have i0:(0:Int)<=(k:Int):=by omega
 have i1:(k:Int)<(n:Int):=by omega
 go_wp2;generalize (w1.alloc (.cells #[.bool g2,.string n2,.string d2] 48))=wq at HS ai ak aa ⊢;refine Sh.Ge (by kernel_rfl) (by kernel_rfl) ?_
 repeat (
  with_reducible refine wpQuiet_step (fun K hK=>?_)
  first
   |(refine Vx (by rfl) ?_;refine hK _ ?_;clear hK K;(try simp only[Act.put,zA,zF,zE]))
   |(refine Vy (by rfl) ?_
     go_simp;apply Exists.intro;refine⟨fun W hW=>?_,hK _ ?_⟩
     first
      |(with_reducible exact Sh.EK hW (kc.o W (HS.o W hW).2.2.2.2.2.2.2.2.2.2.2))
      |(obtain⟨q1,q2,q3,q4,q5,q6,q7,q8,q9,ap,aq,_⟩:=HS.o W hW;go_simp<;>with_reducible rfl)
     clear hK K))
 refine wpQuiet_nil ?_;intro wf al;have am:Hid (Below w.heap.size w wf):=aa.o.trans (al.mono aa.o.size);clear al HS;go_wp2;go_ret;exact⟨rfl,am.o⟩
theorem Xr(day pc:Int)(pa:ByteArray)(Al Ap Ac Av Aw Ae:Option Addr)(nl ne cl cp cc cv cw ce k:Nat)(s:SR)(F:List Int)(w:World)(hE:Env w)(hk:k<s.ps.length)(hs:StIn w s Ap Ac Av)(ad:s.cap.length<=300)(af:s.vot.length<=300)(hF:InInt w Aw F)(ab:F.length<=140737488355328)(ae:Ao s=true/\AZ s.ps.length F=true):
 Calls prog 127 #[.agg #[.int .i64 day,.slice Al nl cl,.string pa,.int .i64 pc,.slice Ap s.ps.length cp,.slice Ac s.cap.length cc,.slice Av s.vot.length cv,.slice Aw F.length cw,.int .i64 (k:Int),.slice Ae ne ce]] w
  fun e w'=>e=.returned (.bool (Co.rd (Co.VT s) (toN F) k != -1))/\Below w.heap.size w w':=by
 have hX:Hid (Bk (w.alloc (.cells #[.int .i64 day,.slice Al nl cl,.string pa,.int .i64 pc,.slice Ap s.ps.length cp,.slice Ac s.cap.length cc,.slice Av s.vot.length cv,.slice Aw F.length cw,.int .i64 (k:Int),.slice Ae ne ce] 147)) w.heap.size 147 (Wq day pc k pa Al Ap Ac Av Aw Ae nl s.ps.length s.cap.length s.vot.length F.length ne cl cp cc cv cw ce)):=Bk.new w _ _;have hB:Hid (Below w.heap.size w (w.alloc (.cells #[.int .i64 day,.slice Al nl cl,.string pa,.int .i64 pc,.slice Ap s.ps.length cp,.slice Ac s.cap.length cc,.slice Av s.vot.length cv,.slice Aw F.length cw,.int .i64 (k:Int),.slice Ae ne ce] 147))):=(zI _ w).alloc (zB _) _;have kc:=zh (Co.Dw s Ap Ac Av Aw cp cc cv cw F _ (hE.below hB.o) (hs.below hB.o) ad af (hF.below hB.o) ab);have x4:=hX.o.c4;have x5:=hX.o.c5;have x6:=hX.o.c6;have x7:=hX.o.c7;have x9:=hX.o.lt;replace hE:=zh hE;replace hs:=zh hs;replace hF:=zh hF;go_enter func127,ntmps127
 go_wp2_with fail
 refine kc.o.mono ?_;rintro e w1 h;obtain⟨h1,hb⟩:=h;rw[zD ae]at h1;obtain⟨b,rfl,ag,hR⟩:=h1;clear kc x4 x5 x6 x7 x9;have d:=zh (hX.o.below hb);have aa:Hid (Below w.heap.size w w1):=hB.o.trans (hb.mono hB.o.size);have x8:=d.o.cell (j:=8) rfl;have x9:=d.o.lt;have r0:=hR.cell k hk;have r9:=hR.lt;clear hb hX hB;have ah:=hs.o.np;go_wp2;go_ret;exact⟨rfl,aa.o⟩
end Rg
end
section
open Go.RowKit Go.Shelf
namespace Rg
open Nt Ci
theorem XN{u0 u1 u2 u3 u4 u5 u6 u7 u8 u9:Value}{xb:Nat}{b:Bool}{w:World}(hx:Bk w xb 147 [u0,u1,u2,u3,u4,u5,u6,u7,u8,u9])(hk:Calls prog 125 #[.agg #[u0,u1,u2,u3,u4,u5,u6,u7,u8,u9]] w fun e w'=>e=.returned (.bool b)/\Below w.heap.size w w'):
 Calls prog 96 #[.func (.func 125) #[] #[],.pointer (some ⟨xb,0,none⟩)] w fun e w'=>e=.returned (.bool b)/\Below w.heap.size w w':=by
 replace hk:=zh hk;have x0:=hx.c0;have x1:=hx.c1;have x2:=hx.c2;have x3:=hx.c3;have x4:=hx.c4;have x5:=hx.c5;have x6:=hx.c6;have x7:=hx.c7;have x8:=hx.cell (j:=8) rfl;have x9:=hx.cell (j:=9) rfl;have xl:=hx.lt;go_enter func96,ntmps96
 go_wp2_with fail
 refine hk.o.q fun w1 hb=>?_;clear hk;go_wp2;go_ret;exact⟨rfl,hb⟩
theorem XO{u0 u1 u2 u3 u4 u5 u6 u7 u8 u9:Value}{xb:Nat}{b:Bool}{w:World}(hx:Bk w xb 147 [u0,u1,u2,u3,u4,u5,u6,u7,u8,u9])(hk:Calls prog 126 #[.agg #[u0,u1,u2,u3,u4,u5,u6,u7,u8,u9]] w fun e w'=>e=.returned (.bool b)/\Below w.heap.size w w'):
 Calls prog 96 #[.func (.func 126) #[] #[],.pointer (some ⟨xb,0,none⟩)] w fun e w'=>e=.returned (.bool b)/\Below w.heap.size w w':=by
 replace hk:=zh hk;have x0:=hx.c0;have x1:=hx.c1;have x2:=hx.c2;have x3:=hx.c3;have x4:=hx.c4;have x5:=hx.c5;have x6:=hx.c6;have x7:=hx.c7;have x8:=hx.cell (j:=8) rfl;have x9:=hx.cell (j:=9) rfl;have xl:=hx.lt;go_enter func96,ntmps96
 go_wp2_with fail
 refine hk.o.q fun w1 hb=>?_;clear hk;go_wp2;go_ret;exact⟨rfl,hb⟩
theorem XP{u0 u1 u2 u3 u4 u5 u6 u7 u8 u9:Value}{xb:Nat}{b:Bool}{w:World}(hx:Bk w xb 147 [u0,u1,u2,u3,u4,u5,u6,u7,u8,u9])(hk:Calls prog 127 #[.agg #[u0,u1,u2,u3,u4,u5,u6,u7,u8,u9]] w fun e w'=>e=.returned (.bool b)/\Below w.heap.size w w'):
 Calls prog 96 #[.func (.func 127) #[] #[],.pointer (some ⟨xb,0,none⟩)] w fun e w'=>e=.returned (.bool b)/\Below w.heap.size w w':=by
 replace hk:=zh hk;have x0:=hx.c0;have x1:=hx.c1;have x2:=hx.c2;have x3:=hx.c3;have x4:=hx.c4;have x5:=hx.c5;have x6:=hx.c6;have x7:=hx.c7;have x8:=hx.cell (j:=8) rfl;have x9:=hx.cell (j:=9) rfl;have xl:=hx.lt;go_enter func96,ntmps96
 go_wp2_with fail
 refine hk.o.q fun w1 hb=>?_;clear hk;go_wp2;go_ret;exact⟨rfl,hb⟩
def ix3(b1 b2 b3:Bool):Int:=if b1 then 0 else if b2 then 1 else if b3 then 2 else -1
theorem UR(b1 b2 b3:Bool):decide (0<=ix3 b1 b2 b3)=(b1||b2||b3):=by cases b1<;>cases b2<;>cases b3<;>rfl
theorem Wr{u0 u1 u2 u3 u4 u5 u6 u7 u8 u9:Value}{xb fb:Nat}{b1 b2 b3:Bool}{w:World}(hx:Bk w xb 147 [u0,u1,u2,u3,u4,u5,u6,u7,u8,u9])(hf:Bk w fb 151 [.func (.func 125) #[] #[],.func (.func 126) #[] #[],.func (.func 127) #[] #[]])
 (k1:∀W,Below w.heap.size w W->Calls prog 125 #[.agg #[u0,u1,u2,u3,u4,u5,u6,u7,u8,u9]] W fun e w'=>e=.returned (.bool b1)/\Below W.heap.size W w')
 (k2:∀W,Below w.heap.size w W->Calls prog 126 #[.agg #[u0,u1,u2,u3,u4,u5,u6,u7,u8,u9]] W fun e w'=>e=.returned (.bool b2)/\Below W.heap.size W w')
 (k3:∀W,Below w.heap.size w W->Calls prog 127 #[.agg #[u0,u1,u2,u3,u4,u5,u6,u7,u8,u9]] W fun e w'=>e=.returned (.bool b3)/\Below W.heap.size W w'):
 Calls prog 124 #[.slice (some ⟨fb,0,none⟩) 3 3,.func (.func 96) #[] #[.pointer (some ⟨xb,0,none⟩)]] w fun e w'=>e=.returned (.int .i64 (ix3 b1 b2 b3))/\Below w.heap.size w w':=by
 have ab:Hid (Below w.heap.size w w):=zI _ _;have q1:=zh (fun W (h:Below w.heap.size w W)=>XN (hx.below h) (k1 W h));have q2:=zh (fun W (h:Below w.heap.size w W)=>XO (hx.below h) (k2 W h));have q3:=zh (fun W (h:Below w.heap.size w W)=>XP (hx.below h) (k3 W h));clear k1 k2 k3;replace hx:=zh hx;replace hf:=zh hf;go_enter func124,ntmps124;go_wp2;refine wp_loop_rounds 4 ?_;rw[rounds_succ];have f0:=hf.o.c0;have fl:=hf.o.lt
 go_wp2_with fail
 refine(q1.o _ ab.o).q fun w1 hb=>?_;have d:Hid (Below w.heap.size w w1):=ab.o.trans (hb.mono ab.o.size);clear hb f0 fl ab
 cases b1 with
 |true=>
  go_wp2;go_ret;exact⟨rfl,d.o⟩
 |false=>
 have f0:=(hf.o.below d.o).c1;have fl:=(hf.o.below d.o).lt
 go_wp2_with fail
 rw[rounds_succ]
 go_wp2_with fail
 refine(q2.o _ d.o).q fun w2 hb=>?_;have aa:Hid (Below w.heap.size w w2):=d.o.trans (hb.mono d.o.size);clear hb f0 fl d
 cases b2 with
 |true=>
  go_wp2;go_ret;exact⟨rfl,aa.o⟩
 |false=>
 have f0:=(hf.o.below aa.o).c2;have fl:=(hf.o.below aa.o).lt
 go_wp2_with fail
 rw[rounds_succ]
 go_wp2_with fail
 refine(q3.o _ aa.o).q fun w3 hb=>?_;have ad:Hid (Below w.heap.size w w3):=aa.o.trans (hb.mono aa.o.size);clear hb f0 fl aa
 cases b3 with
 |true=>
  go_wp2;go_ret;exact⟨rfl,ad.o⟩
 |false=>
 have f0:=(hf.o.below ad.o).c2;have fl:=(hf.o.below ad.o).lt
 go_wp2_with fail
 rw[rounds_succ];go_wp2;go_ret;exact⟨rfl,ad.o⟩
theorem Qg{u0 u1 u2 u3 u4 u5 u6 u7 u8 u9:Value}{xb fb:Nat}{b1 b2 b3:Bool}{w:World}(hx:Bk w xb 147 [u0,u1,u2,u3,u4,u5,u6,u7,u8,u9])(hf:Bk w fb 151 [.func (.func 125) #[] #[],.func (.func 126) #[] #[],.func (.func 127) #[] #[]])
 (k1:∀W,Below w.heap.size w W->Calls prog 125 #[.agg #[u0,u1,u2,u3,u4,u5,u6,u7,u8,u9]] W fun e w'=>e=.returned (.bool b1)/\Below W.heap.size W w')
 (k2:∀W,Below w.heap.size w W->Calls prog 126 #[.agg #[u0,u1,u2,u3,u4,u5,u6,u7,u8,u9]] W fun e w'=>e=.returned (.bool b2)/\Below W.heap.size W w')
 (k3:∀W,Below w.heap.size w W->Calls prog 127 #[.agg #[u0,u1,u2,u3,u4,u5,u6,u7,u8,u9]] W fun e w'=>e=.returned (.bool b3)/\Below W.heap.size W w'):
 Calls prog 94 #[.slice (some ⟨fb,0,none⟩) 3 3,.func (.func 96) #[] #[.pointer (some ⟨xb,0,none⟩)]] w fun e w'=>e=.returned (.bool (b1||b2||b3))/\Below w.heap.size w w':=by
 have ki:=zh (Wr hx hf k1 k2 k3);have hr:=zh (UR b1 b2 b3);clear k1 k2 k3 hx hf;go_enter func94,ntmps94
 go_wp2_with fail
 refine ki.o.q fun w1 hb=>?_;clear ki;go_wp2;go_ret;exact⟨Ad hr.o,hb⟩
theorem Qh(w:World):Calls prog 95 #[] w fun e w'=>e=.returned (.slice (some ⟨w.heap.size,0,none⟩) 3 3)/\w'=w.alloc (.cells #[.func (.func 125) #[] #[],.func (.func 126) #[] #[],.func (.func 127) #[] #[]] 151):=by
 go_enter func95,ntmps95;go_wp2;go_ret;exact⟨rfl,rfl⟩
theorem DU(f:Hd->Int){l:List Hd}{k:Nat}(h:k<l.length)(day:Int)(c:ByteArray):
 AY f (l.take (k+1)) day c=AY f (l.take k) day c+(if BC l[k] day/\l[k].co=c then f l[k] else 0):=by
 unfold AY;rw[zO h,yL,zw,List.sum_append]
 congr 1
 by_cases e:BC l[k] day/\l[k].co=c
 .rw[zD e,zk,zD (by rw[zG e.1,zG e.2];rfl)];simp
 rw[zC e,zk,zC (by intro q;rw[zq]at q;exact e ⟨zL q.1,zL q.2⟩)];simp
theorem EP{f:Hd->Int}{l:List Hd}(h:∀x∈l,0<=f x)(day:Int)(c:ByteArray):0<=AY f l day c:=by
 unfold AY
 induction l with
 |nil=>exact Int.le_refl _
 |cons x l ih=>
  have h1:=h x zf;have h2:=ih fun y hy=>h y (zY _ hy);rw[zk]
  split
  .rw[yy,List.sum_cons];omega
  exact h2
theorem JJ{f:Hd->Int}{l:List Hd}(h:∀x∈l,0<=f x)(day:Int)(c:ByteArray)(k:Nat):AY f (l.take k) day c<=AY f l day c:=by
 have e:AY f l day c=AY f (l.take k) day c+AY f (l.drop k) day c:=by
  conv=>lhs;rw[<-yo k l]
  unfold AY;rw[yL,zw,List.sum_append]
 have:=EP (f:=f) (l:=l.drop k) (fun x hx=>h x (wI hx)) day c;omega
def GE(l:List Hd)(day:Int):ByteArray->Option Value:=fun c=>
 if (l.any fun h=>decide (BC h day)&&decide (h.co=c))=true then some (.agg #[.int .i64 (AY Hd.ca l day c),.int .i64 (AY Hd.vo l day c)]) else none
theorem Tj(l:List Hd)(day:Int)(c:ByteArray):(GE l day c).getD (.agg #[.int .i64 0,.int .i64 0])=.agg #[.int .i64 (AY Hd.ca l day c),.int .i64 (AY Hd.vo l day c)]:=by
 unfold GE
 by_cases e:(l.any fun h=>decide (BC h day)&&decide (h.co=c))=true
 .rw[zD e];rfl
 rw[zC e];have:l.filter (fun h=>decide (BC h day)&&decide (h.co=c))=[]:=List.filter_eq_nil_iff.2 fun x hx hq=>e (List.any_eq_true.2 ⟨x,hx,hq⟩);unfold AY;rw[this];rfl
theorem Qi{l:List Hd}{k:Nat}(h:k<l.length)(day:Int)(hr:¬BC l[k] day):GE (l.take (k+1)) day=GE (l.take k) day:=by
 funext c
 have h1:∀f:Hd->Int,AY f (l.take (k+1)) day c=AY f (l.take k) day c:=fun f=>by rw[DU _ h,zC (fun q=>hr q.1),Int.add_zero]
 unfold GE;rw[h1,h1,zO h,List.any_append];simp[hr]
theorem Tk{l:List Hd}{k:Nat}(h:k<l.length)(day:Int)(hr:BC l[k] day):∀c,HH (GE (l.take k) day) l[k].co (some (.agg #[.int .i64 (AY Hd.ca (l.take k) day l[k].co+l[k].ca),.int .i64 (AY Hd.vo (l.take k) day l[k].co+l[k].vo)])) c=GE (l.take (k+1)) day c:=fun c=>by
 by_cases e:c=l[k].co
 .subst e;rw[Bg];have h1:∀f:Hd->Int,AY f (l.take (k+1)) day l[k].co=AY f (l.take k) day l[k].co+f l[k]:=fun f=>by rw[DU _ h,zD ⟨hr,rfl⟩]
  unfold GE;rw[h1,h1,zD];rw[zO h,List.any_append];simp[hr]
 rw[Bj e];have h1:∀f:Hd->Int,AY f (l.take (k+1)) day c=AY f (l.take k) day c:=fun f=>by rw[DU _ h,zC (fun q=>e q.2.symm),Int.add_zero]
 unfold GE;rw[h1,h1,zO h,List.any_append];have:decide (l[k].co=c)=false:=zH fun q=>e q.symm;simp[this]
def US(W:World)(b:Nat)(l:List Hd)(day:Int)(k:Nat):Prop:=∃c,MapK prog 9 κs W b c (GE l day)/\c<=k
theorem Tl(w:World):(zeroValue 120).run prog w=.ok (.agg #[.int .i64 0,.int .i64 0]) w:=by kernel_rfl
theorem Ws(l:List Hd)(A0:Option Addr)(cap lb:Nat)(day:Int)(w:World)(hl:InHd w A0 l)(hz:∀h∈l,HdSz h)(hp:∀h∈l,Cr h.ca/\Cr h.vo)(aU:l.length<=1000000)(aN:w.cell? ⟨lb,0,none⟩=some (.slice A0 l.length cap))(aE:lb<w.heap.size):
 Calls prog 61 #[.int .i64 day,.pointer (some ⟨lb,0,none⟩)] w fun e w'=>e=.returned (.bool (decide (D5 l day)))/\Below w.heap.size w w':=by
 have aO:=@run_makeMap prog;obtain⟨R,hR⟩:∃R,R=decide (D5 l day):=⟨_,rfl⟩
 have aL:Hid (∀k (h:k<l.length),(100<AY Hd.ca (l.take (k+1)) day l[k].co\/100<AY Hd.vo (l.take (k+1)) day l[k].co)->R=false):=fun k h q=>by
  rw[hR];refine zH fun b=>?_;have h1:=b l[k] (zN h);have h2:=JJ (f:=Hd.ca) (l:=l) (fun x hx=>(hp x hx).1.1) day l[k].co (k+1);have h3:=JJ (f:=Hd.vo) (l:=l) (fun x hx=>(hp x hx).2.1) day l[k].co (k+1);omega
 have aM:Hid ((∀c,AY Hd.ca l day c<=100/\AY Hd.vo l day c<=100)->R=true):=fun q=>by
  rw[hR];exact zG fun x _=>q x.co
 rw[<-hR];clear hR;have aP:Hid (∀k c,(0<=AY Hd.ca (l.take k) day c)/\0<=AY Hd.vo (l.take k) day c):=fun k c=>⟨EP (fun x hx=>(hp x (yC hx)).1.1) _ _,EP (fun x hx=>(hp x (yC hx)).2.1) _ _⟩;have aB:Hid (US (w.alloc (.map #[] 0)) w.heap.size (l.take 0) day 0):=⟨0,by have h:=MapK.made w prog 9 κs;exact h.congr fun x=>by simp[GE],zB _⟩;have au:Hid (Below w.heap.size w (w.alloc (.map #[] 0))):=(zI _ w).alloc (zB _) _;have aD:(w.alloc (.map #[] 0)).cell? ⟨lb,0,none⟩=some (.slice A0 l.length cap):=(au.o.cell (p:=⟨lb,0,none⟩) aE).trans aN;replace hl:=zh hl;replace hz:=zh hz;replace hp:=zh hp;go_enter func61,ntmps61;go_wp2;clear aO aD
 go_loopw [11] (fun i wr=>∃k:Nat,k<=l.length/\i=.int .i64 (k:Int)/\Hid (Below w.heap.size w wr)/\Hid (US wr w.heap.size (l.take k) day k)/\Hid (∀c,AY Hd.ca (l.take k) day c<=100/\AY Hd.vo (l.take k) day c<=100)) (fun i _=>l.length-(intOf i).toNat)
 case atStart=>exact⟨0,zQ _,rfl,au,aB,fun c=>by simp[AY]⟩
 case round=>
  obtain⟨k,hk,rfl,hB,hM,hI⟩:=hrel;clear aB au;obtain⟨wz,rfl⟩:∃z,z=wr:=⟨_,rfl⟩
  by_cases hlt:k<l.length
  .obtain ⟨b,off,rfl,ab,aC⟩:=hl.o (by omega);obtain⟨A,c,hj,hc⟩:=aC k hlt;clear aC;have aT:b<wz.heap.size:=zJ ab hB.o.size;have aF:=hz.o l[k] (zN hlt);have aQ:=hp.o l[k] (zN hlt);have ag:=aL.o k hlt;have af:=Qi hlt day;have ah:=Tk hlt day;have al:=fun c=>DU Hd.ca hlt day c;have am:=fun c=>DU Hd.vo hlt day c;have aS:=aP.o k l[k].co;have aR:=hI.o l[k].co;have k0:(0:Int)<=(k:Int):=by omega
   have k1:(k:Int)<(l.length:Int):=by omega
   generalize l[k]=h at *;have e0:=(hB.o.cell (p:=⟨b,_,none⟩) ab).trans (hc 0 _ rfl);have e1:=(hB.o.cell (p:=⟨b,_,none⟩) ab).trans (hc 1 _ rfl);have e2:=(hB.o.cell (p:=⟨b,_,none⟩) ab).trans (hc 2 _ rfl);have e3:=(hB.o.cell (p:=⟨b,_,none⟩) ab).trans (hc 3 _ rfl);have e4:=(hB.o.cell (p:=⟨b,_,none⟩) ab).trans (hc 4 _ rfl);have e5:=(hB.o.cell (p:=⟨b,_,none⟩) ab).trans (hc 5 _ rfl);have e6:=(hB.o.cell (p:=⟨b,_,none⟩) ab).trans (hc 6 _ rfl);have e7:=(hB.o.cell (p:=⟨b,_,none⟩) ab).trans (hc 7 _ rfl);have e8:=(hB.o.cell (p:=⟨b,_,none⟩) ab).trans (hc 8 _ rfl);have e9:=(hB.o.cell (p:=⟨b,_,none⟩) ab).trans (hc 9 _ rfl);simp only[ya]at e0;have an:=aF;obtain⟨z0,z1,z2,z3,z4,z5,z6,z7,z8,z9,zt⟩:=aF;obtain⟨⟨p1,p2⟩,p3,p4⟩:=aQ;obtain⟨ai,ad⟩:∃x,x=AY Hd.ca (l.take k) day h.co:=⟨_,rfl⟩;obtain⟨aj,ae⟩:∃x,x=AY Hd.vo (l.take k) day h.co:=⟨_,rfl⟩;rw[<-ad,<-ae]at aS aR ah;have hx:Hid (Bk (wz.alloc (.cells #[.string h.id,.string h.co,.string h.ho,.string h.no,.string h.pl,.slice A h.jo.length c,.int .i64 h.ca,.int .i64 h.vo,.int .i64 h.fr,.int .i64 h.tt] 29)) wz.heap.size 29 [.string h.id,.string h.co,.string h.ho,.string h.no,.string h.pl,.slice A h.jo.length c,.int .i64 h.ca,.int .i64 h.vo,.int .i64 h.fr,.int .i64 h.tt]):=Bk.new wz _ _;have aA:Hid (Below w.heap.size w (wz.alloc (.cells #[.string h.id,.string h.co,.string h.ho,.string h.no,.string h.pl,.slice A h.jo.length c,.int .i64 h.ca,.int .i64 h.vo,.int .i64 h.fr,.int .i64 h.tt] 29))):=hB.o.alloc hB.o.size _;have kr:=zh (Ru h an A c day (wz.alloc (.cells #[.string h.id,.string h.co,.string h.ho,.string h.no,.string h.pl,.slice A h.jo.length c,.int .i64 h.ca,.int .i64 h.vo,.int .i64 h.fr,.int .i64 h.tt] 29)));obtain⟨mc,aH,aV⟩:=hM.o;have aI:Hid (MapK prog 9 κs (wz.alloc (.cells #[.string h.id,.string h.co,.string h.ho,.string h.no,.string h.pl,.slice A h.jo.length c,.int .i64 h.ca,.int .i64 h.vo,.int .i64 h.fr,.int .i64 h.tt] 29)) w.heap.size mc (GE (l.take k) day)):=aH.alloc _;obtain⟨d,hd⟩:∃x,x=decide (BC h day):=⟨_,rfl⟩;rw[<-hd]at kr;replace hd:=zh hd;replace ag:=zh ag;replace af:=zh af;replace ah:=zh ah;replace al:=zh al;replace am:=zh am;replace ad:=zh ad;replace ae:=zh ae;replace an:=zh an;replace hc:=zh hc;replace hj:=zh hj;have xl:=hx.o.lt
   go_wp2_with fail
   refine kr.o.q fun w3 ay=>?_;have av:Hid (Below w.heap.size w w3):=aA.o.trans (ay.mono aA.o.size);have ax:Hid (MapK prog 9 κs w3 w.heap.size mc (GE (l.take k) day)):=aI.o.below ay;have ar:Hid (Bk w3 wz.heap.size 29 [.string h.id,.string h.co,.string h.ho,.string h.no,.string h.pl,.slice A h.jo.length c,.int .i64 h.ca,.int .i64 h.vo,.int .i64 h.fr,.int .i64 h.tt]):=hx.o.below ay;clear xl e0 e1 e2 e3 e4 e5 e6 e7 e8 e9
   cases d with
   |false=>
    have aJ:Hid (US w3 w.heap.size (l.take (k+1)) day (k+1)):=⟨mc,by rw[af.o (zu hd.o.symm)];exact ax.o,by omega⟩
    have aw:Hid (∀c,AY Hd.ca (l.take (k+1)) day c<=100/\AY Hd.vo (l.take (k+1)) day c<=100):=fun c=>by
     rw[al.o,am.o,zC fun q=>zu hd.o.symm q.1,zC fun q=>zu hd.o.symm q.1,Int.add_zero,Int.add_zero];exact hI.o c
    go_wp2;exact⟨⟨k+1,by omega,by go_num,av,aJ,aw⟩,by simp only[intOf];omega⟩
   |true=>
    have aa:=zL hd.o.symm;have az:=ax.o.look FV underlying118 (Tl _) (Ex z1);rw[Tj,<-ad.o,<-ae.o]at az;have y1:=ar.o.c1;have y6:=ar.o.c6;have y7:=ar.o.c7;have yl:=ar.o.lt;have e1:AY Hd.ca (l.take (k+1)) day h.co=ai+h.ca:=by rw[al.o,zD ⟨aa,rfl⟩,<-ad.o]
    have e2:AY Hd.vo (l.take (k+1)) day h.co=aj+h.vo:=by rw[am.o,zD ⟨aa,rfl⟩,<-ae.o]
    have ao:Hid (Below w.heap.size w (w3.alloc (.cells #[.int .i64 (ai+h.ca),.int .i64 (aj+h.vo)] 120))):=av.o.alloc av.o.size _;obtain⟨w5,ak,ap,aq⟩:=(ax.o.alloc (.cells #[.int .i64 (ai+h.ca),.int .i64 (aj+h.vo)] 120)).put EC FV underlying118 (by unfold maxLen;omega) (Ex z1) (.agg #[.int .i64 (ai+h.ca),.int .i64 (aj+h.vo)]);have aK:Hid (US w5 w.heap.size (l.take (k+1)) day (k+1)):=⟨_,ap.congr (ah.o aa),by split<;>omega⟩;have aG:Hid (Below w.heap.size w w5):=ao.o.grown aq ao.o.size (fun b e=>by cases e;exact zB _)
    by_cases c1:100<ai+h.ca
    .have hQ:Hid (R=false):=ag.o (.inl (by omega));replace aa:=zh aa;replace e1:=zh e1;replace e2:=zh e2;clear ap aq ak;go_wp2;go_ret;exact⟨Ad hQ.o.symm,ao.o⟩
    have c1':ai+h.ca<=100:=by omega
    by_cases c2:100<aj+h.vo
    .have hQ:Hid (R=false):=ag.o (.inr (by omega));replace aa:=zh aa;replace e1:=zh e1;replace e2:=zh e2;clear ap aq ak;go_wp2;go_ret;exact⟨Ad hQ.o.symm,ao.o⟩
    have c2':aj+h.vo<=100:=by omega
    have aw:Hid (∀c,AY Hd.ca (l.take (k+1)) day c<=100/\AY Hd.vo (l.take (k+1)) day c<=100):=fun c=>by
     by_cases e:h.co=c
     .rw[<-e,e1,e2];exact⟨c1',c2'⟩
     rw[al.o,am.o,zC fun q=>e q.2,zC fun q=>e q.2,Int.add_zero,Int.add_zero];exact hI.o c
    replace aa:=zh aa;replace e1:=zh e1;replace e2:=zh e2;clear ap aq;go_wp2;exact⟨⟨k+1,by omega,by go_num,aG,aK,aw⟩,by simp only[intOf];omega⟩
  obtain rfl:k=l.length:=by omega
  have hQ:Hid (R=true):=aM.o fun c=>by have:=hI.o c;rwa [zn]at this
  go_wp2;go_ret;exact⟨Ad hQ.o.symm,hB.o⟩
structure BeIn(w:World)(l:List Hd)(A0:Option Addr)(cap lb ob:Nat):Prop where
 r:InHd w A0 l
 z:∀h∈l,HdSz h
 p:∀h∈l,Cr h.ca/\Cr h.vo
 n:l.length<=1000000
 b:w.cell? ⟨lb,0,none⟩=some (.slice A0 l.length cap)
 bl:lb<w.heap.size
 o:w.cell? ⟨ob,0,none⟩=some (.func (.func 61) #[] #[.pointer (some ⟨lb,0,none⟩)])
 ol:ob<w.heap.size
theorem BeIn.below{w w':World}{l:List Hd}{A0:Option Addr}{cap lb ob:Nat}(h:BeIn w l A0 cap lb ob)(hb:Below w.heap.size w w'):BeIn w' l A0 cap lb ob :=
 ⟨h.r.below hb,h.z,h.p,h.n,(hb.cell (p:=⟨lb,0,none⟩) h.bl).trans h.b,zJ h.bl hb.size,(hb.cell (p:=⟨ob,0,none⟩) h.ol).trans h.o,zJ h.ol hb.size⟩
theorem UT(l:List Hd)(A0:Option Addr)(cap lb ob:Nat)(h:Hd)(hz:HdSz h)(A:Option Addr)(c:Nat)(w:World)(hI:BeIn w l A0 cap lb ob):
 Calls prog 63 #[.agg #[.string h.id,.string h.co,.string h.ho,.string h.no,.string h.pl,.slice A h.jo.length c,.int .i64 h.ca,.int .i64 h.vo,.int .i64 h.fr,.int .i64 h.tt],.pointer (some ⟨ob,0,none⟩)] w fun e w'=>e=.returned (.bool (!decide (D5 l h.fr)))/\Below w.heap.size w w':=by
 have aa:Hid (Below w.heap.size w (w.alloc (.cells #[.string h.id,.string h.co,.string h.ho,.string h.no,.string h.pl,.slice A h.jo.length c,.int .i64 h.ca,.int .i64 h.vo,.int .i64 h.fr,.int .i64 h.tt] 29))):=(zI _ w).alloc (zB _) _;have hx:Hid (Bk (w.alloc (.cells #[.string h.id,.string h.co,.string h.ho,.string h.no,.string h.pl,.slice A h.jo.length c,.int .i64 h.ca,.int .i64 h.vo,.int .i64 h.fr,.int .i64 h.tt] 29)) w.heap.size 29 [.string h.id,.string h.co,.string h.ho,.string h.no,.string h.pl,.slice A h.jo.length c,.int .i64 h.ca,.int .i64 h.vo,.int .i64 h.fr,.int .i64 h.tt]):=Bk.new w _ _;have d:=hI.below aa.o;have ko:=zh (Ws l A0 cap lb h.fr _ d.r d.z d.p d.n d.b d.bl);have o1:=d.o;have ol:=d.ol;have x8:=hx.o.cell (j:=8) rfl;have xl:=hx.o.lt;obtain⟨z1,z2⟩:=hz.fr;generalize decide (D5 l h.fr)=R at ko;clear hI d hx;obtain⟨id,co,ho,no,pl,jo,ca,vo,fr,tt⟩:=h;simp only[]at z1 z2 aa ko o1 ol x8 xl ⊢;go_enter func63,ntmps63
 go_wp2_with fail
 refine ko.o.q fun w' hb=>?_;go_wp2;go_ret;exact⟨rfl,aa.o.trans (hb.mono aa.o.size)⟩
theorem Qj(l:List Hd)(A0:Option Addr)(cap lb ob:Nat)(w:World)(hI:BeIn w l A0 cap lb ob):
 Calls prog 111 #[.slice A0 l.length cap,.func (.func 63) #[] #[.pointer (some ⟨ob,0,none⟩)]] w fun e w'=>(∃i:Int,e=.returned (.int .i64 i)/\decide (0<=i)=!decide (BY l))/\Below w.heap.size w w':=by
 have kb:=zh (fun(h:Hd) (hm:h∈l) A c W (hw:Below w.heap.size w W)=>UT l A0 cap lb ob h (hI.z h hm) A c W (hI.below hw));have hn:=hI.n;have hl:=zh hI.r;have ag:Hid (∀k (h:k<l.length),¬D5 l l[k].fr->decide (BY l)=false):=fun k h n=>zH fun q=>n (q _ (zN h));have ah:Hid ((∀k (h:k<l.length),D5 l l[k].fr)->decide (BY l)=true):=fun q=>zG fun x hx=>by obtain⟨i,hi,rfl⟩:=zg hx;exact q i hi
 have hz:=zh hI.z;generalize decide (BY l)=R at *;clear hI;go_enter func111,ntmps111;go_wp2
 go_loopw [8] (fun i wr=>∃k:Nat,k<=l.length/\i=.int .i64 (k:Int)/\Hid (Below w.heap.size w wr)/\Hid (∀j (h:j<l.length),j<k->D5 l l[j].fr)) (fun i _=>l.length-(intOf i).toNat)
 case atStart=>exact⟨0,zQ _,rfl,zI _ _,fun j _ h=>absurd h (yB _)⟩
 case round=>
  obtain⟨k,hk,rfl,hB,hS⟩:=hrel;obtain⟨wz,rfl⟩:∃z,z=wr:=⟨_,rfl⟩
  by_cases hlt:k<l.length
  .obtain ⟨b,off,rfl,aa,af⟩:=hl.o (by omega);obtain⟨A,c,_,hc⟩:=af k hlt;clear af;have ak:b<wz.heap.size:=zJ aa hB.o.size;have kc:=kb.o l[k] (zN hlt) A c wz hB.o;have ab:=ag.o k hlt
   have ad:Hid (D5 l l[k].fr->∀j (h:j<l.length),j<k+1->D5 l l[j].fr):=fun h j hj h2=>by
    by_cases e:j=k
    .subst e;exact h
    exact hS.o j hj (by omega)
   obtain⟨d,hd⟩:∃x,x=decide (D5 l l[k].fr):=⟨_,rfl⟩;rw[<-hd]at kc;have k0:(0:Int)<=(k:Int):=by omega
   have k1:(k:Int)<(l.length:Int):=by omega
   generalize l[k]=h at hc kc ab ad hd;have e0:=(hB.o.cell (p:=⟨b,_,none⟩) aa).trans (hc 0 _ rfl);have e1:=(hB.o.cell (p:=⟨b,_,none⟩) aa).trans (hc 1 _ rfl);have e2:=(hB.o.cell (p:=⟨b,_,none⟩) aa).trans (hc 2 _ rfl);have e3:=(hB.o.cell (p:=⟨b,_,none⟩) aa).trans (hc 3 _ rfl);have e4:=(hB.o.cell (p:=⟨b,_,none⟩) aa).trans (hc 4 _ rfl);have e5:=(hB.o.cell (p:=⟨b,_,none⟩) aa).trans (hc 5 _ rfl);have e6:=(hB.o.cell (p:=⟨b,_,none⟩) aa).trans (hc 6 _ rfl);have e7:=(hB.o.cell (p:=⟨b,_,none⟩) aa).trans (hc 7 _ rfl);have e8:=(hB.o.cell (p:=⟨b,_,none⟩) aa).trans (hc 8 _ rfl);have e9:=(hB.o.cell (p:=⟨b,_,none⟩) aa).trans (hc 9 _ rfl);simp only[ya]at e0;replace kc:=zh kc;replace hd:=zh hd;replace ab:=zh ab;replace hc:=zh hc
   go_wp2_with fail
   refine kc.o.q fun w3 aj=>?_;have ae:Hid (Below w.heap.size w w3):=hB.o.trans (aj.mono hB.o.size)
   cases d with
   |false=>
    have hQ:Hid (R=false):=ab.o (zu hd.o.symm);go_wp2;go_ret;exact⟨⟨k,rfl,by rw[hQ.o];exact zG k0⟩,ae.o⟩
   |true=>
    have ai:Hid (∀j (h:j<l.length),j<k+1->D5 l l[j].fr):=ad.o (zL hd.o.symm);go_wp2;exact⟨⟨k+1,by omega,by go_num,ae,ai⟩,by simp only[intOf];omega⟩
  obtain rfl:k=l.length:=by omega
  have hQ:Hid (R=true):=ah.o fun j h=>hS.o j h h;go_wp2;go_ret;exact⟨⟨-1,rfl,by rw[hQ.o];rfl⟩,hB.o⟩
theorem KD(l:List Hd)(A0:Option Addr)(cap lb ob:Nat)(w:World)(hI:BeIn w l A0 cap lb ob):
 Calls prog 62 #[.slice A0 l.length cap,.func (.func 63) #[] #[.pointer (some ⟨ob,0,none⟩)]] w fun e w'=>e=.returned (.bool (!decide (BY l)))/\Below w.heap.size w w':=by
 have kc:=zh (Qj l A0 cap lb ob w hI);clear hI;go_enter func62,ntmps62
 go_wp2_with fail
 refine kc.o.mono ?_;rintro e w' ⟨⟨i,rfl,hi⟩,hb⟩;go_wp2;go_ret;exact⟨rfl,hb⟩
theorem KE(l:List Hd)(A0:Option Addr)(cap:Nat)(w:World)(hl:InHd w A0 l)(hz:∀h∈l,HdSz h)(hp:∀h∈l,Cr h.ca/\Cr h.vo)(aa:l.length<=1000000):
 Calls prog 24 #[.slice A0 l.length cap] w fun e w'=>e=.returned (.bool (decide (BY l)))/\Below w.heap.size w w':=by
 have d:Hid (Below w.heap.size w ((w.alloc (.cells #[.slice A0 l.length cap] 22)).alloc (.cells #[.func (.func 61) #[] #[.pointer (some ⟨w.heap.size,0,none⟩)]] 63))):=((zI _ w).alloc (zB _) _).alloc (by simp) _
 have hI:Hid (BeIn ((w.alloc (.cells #[.slice A0 l.length cap] 22)).alloc (.cells #[.func (.func 61) #[] #[.pointer (some ⟨w.heap.size,0,none⟩)]] 63)) l A0 cap w.heap.size (w.heap.size+1)) :=
  ⟨hl.below d.o,hz,hp,aa,by simp,by simp;omega,by simp,by simp⟩
 have kc:=zh (KD l A0 cap w.heap.size (w.heap.size+1) _ hI.o);have f2:Bk ((w.alloc (.cells #[.slice A0 l.length cap] 22)).alloc (.cells #[.nilFunc] 63)) (w.heap.size+1) 63 [.nilFunc]:=by have h:=Bk.new (w.alloc (.cells #[.slice A0 l.length cap] 22)) 63 [.nilFunc];simpa using h
 have c1:=f2.c0;have c2:=f2.frozen 0;have c3:=f2.lt;clear f2;generalize decide (BY l)=R at kc;go_enter func24,ntmps24
 go_wp2_with fail
 refine kc.o.q fun w' hb=>?_;go_wp2;go_ret;exact⟨by simp,d.o.trans (hb.mono d.o.size)⟩
def Wt(V:Prop)(w:World)(e:Ending)(w':World):Prop:=∃r:Bool,e=.returned (.bool r)/\(r=true<->V)/\Below w.heap.size w w'
theorem Wu(h:Hd):(nms h).length<=4+h.jo.length:=by
 unfold nms;have h1:(opt h.no).length<=1:=by unfold opt;split<;>simp
 have h2:(opt h.pl).length<=1:=by unfold opt;split<;>simp
 have h3:=GO h.jo;simp only[zZ,zV];omega
theorem O2{l:List Hd}(h:∀x∈l,x.jo.length<=4):(Dm l).length<=8*l.length:=by
 induction l with
 |nil=>exact zB _
 |cons x l ih=>
  have h1:=Wu x;have h2:=h x zf;have h3:=ih fun y hy=>h y (zY _ hy);unfold Dm at *;rw[List.flatMap_cons,zV,zZ];omega
theorem GF(l:List Hd)(A0:Option Addr)(cap:Nat)(w:World)(hl:InHd w A0 l)(hz:∀h∈l,HdSz h)(aM:l.length<=1000000):
 Calls prog 7 #[.slice A0 l.length cap] w (Wt (Valid l) w):=by
 have aN:=@run_makeMap prog;have aH:Hid (∀k (h:k<l.length),¬HW l k h->(false=true<->Valid l)):=fun k h n=>⟨fun q=>(Bool.false_ne_true q).elim,fun q=>absurd (q.1 k h) n⟩;have aI:Hid (¬l.length<=400->(false=true<->Valid l)):=fun n=>⟨fun q=>(Bool.false_ne_true q).elim,fun q=>absurd q.2.1 n⟩;have aJ:Hid (∀ps,IsParts l ps->¬ps.length<=60->(false=true<->Valid l)):=fun ps h n=>⟨fun q=>(Bool.false_ne_true q).elim,fun q=>absurd (q.2.2.1 ps h) n⟩
 have aK:Hid (∀ps,(∀k (h:k<l.length),HW l k h)->l.length<=400->IsParts l ps->ps.length<=60->(decide (BY l)=true<->Valid l)):=fun ps h1 h2 h3 h4=>
  ⟨fun q=>⟨h1,h2,fun qs h=>by rw[h.unique h3 fun _=>wB];exact h4,zL q⟩,fun q=>zG q.2.2.2⟩
 have ay:Hid (∀k (h:k<l.length),HW l k h<->(Proper l[k]/\l[k].id∉(l.take k).map Hd.id)):=fun _ _=>wB;generalize Valid l=V at *;have av:Hid (Fl (w.alloc (.map #[] 0)) w.heap.size ((l.take 0).map Hd.id) 0):=⟨0,by have h:=MapK.made w prog 9 κs;rw[<-FX]at h;exact h,zQ _⟩;have au:Hid (Below w.heap.size w (w.alloc (.map #[] 0))):=(zI _ w).alloc (zB _) _;replace hl:=zh hl;replace hz:=zh hz;go_enter func7,ntmps7;go_wp2;clear aN
 go_loopw [9] (fun i wr=>∃k:Nat,k<=l.length/\i=.int .i64 (k:Int)/\Hid (Below w.heap.size w wr)/\Hid (Fl wr w.heap.size ((l.take k).map Hd.id) k)/\Hid (∀j (h:j<l.length),j<k->HW l j h)) (fun i _=>l.length-(intOf i).toNat)
 case atStart=>exact⟨0,zQ _,rfl,au,av,fun j _ h=>absurd h (yB _)⟩
 case round=>
  obtain⟨k,hk,rfl,hB,hM,hI⟩:=hrel;clear av au;obtain⟨wz,rfl⟩:∃z,z=wr:=⟨_,rfl⟩
  by_cases af:k<l.length
  .obtain ⟨b,off,rfl,aa,az⟩:=hl.o (by omega);obtain⟨A,c,hj,hc⟩:=az k af;clear az;have aO:b<wz.heap.size:=zJ aa hB.o.size;have al:=hz.o l[k] (zN af);have ad:=aH.o k af;have ae:=ay.o k af
   have ar:Hid (HW l k af->∀j (h:j<l.length),j<k+1->HW l j h):=fun h j hj h2=>by
    by_cases e:j=k
    .subst e;exact h
    exact hI.o j hj (by omega)
   have an:(l.take (k+1)).map Hd.id=(l.take k).map Hd.id++[l[k].id]:=by rw[zO af,zw];rfl
   have k0:(0:Int)<=(k:Int):=by omega
   have k1:(k:Int)<(l.length:Int):=by omega
   generalize HW l k af=HA at ad ae ar;generalize l[k]=h at hc al ae hj an;have e0:=(hB.o.cell (p:=⟨b,_,none⟩) aa).trans (hc 0 _ rfl);have e1:=(hB.o.cell (p:=⟨b,_,none⟩) aa).trans (hc 1 _ rfl);have e2:=(hB.o.cell (p:=⟨b,_,none⟩) aa).trans (hc 2 _ rfl);have e3:=(hB.o.cell (p:=⟨b,_,none⟩) aa).trans (hc 3 _ rfl);have e4:=(hB.o.cell (p:=⟨b,_,none⟩) aa).trans (hc 4 _ rfl);have e5:=(hB.o.cell (p:=⟨b,_,none⟩) aa).trans (hc 5 _ rfl);have e6:=(hB.o.cell (p:=⟨b,_,none⟩) aa).trans (hc 6 _ rfl);have e7:=(hB.o.cell (p:=⟨b,_,none⟩) aa).trans (hc 7 _ rfl);have e8:=(hB.o.cell (p:=⟨b,_,none⟩) aa).trans (hc 8 _ rfl);have e9:=(hB.o.cell (p:=⟨b,_,none⟩) aa).trans (hc 9 _ rfl);simp only[ya]at e0;have zid:=al.id;have hx:Hid (Bk (wz.alloc (.cells #[.string h.id,.string h.co,.string h.ho,.string h.no,.string h.pl,.slice A h.jo.length c,.int .i64 h.ca,.int .i64 h.vo,.int .i64 h.fr,.int .i64 h.tt] 29)) wz.heap.size 29 [.string h.id,.string h.co,.string h.ho,.string h.no,.string h.pl,.slice A h.jo.length c,.int .i64 h.ca,.int .i64 h.vo,.int .i64 h.fr,.int .i64 h.tt]):=Bk.new wz _ _;have ap:Hid (Below w.heap.size w (wz.alloc (.cells #[.string h.id,.string h.co,.string h.ho,.string h.no,.string h.pl,.slice A h.jo.length c,.int .i64 h.ca,.int .i64 h.vo,.int .i64 h.fr,.int .i64 h.tt] 29))):=hB.o.alloc hB.o.size _;have kp:=zh (MI h al A c _ (hj.below ap.o));obtain⟨mc,aD,aP⟩:=hM.o;have aE:Hid (MapK prog 9 κs (wz.alloc (.cells #[.string h.id,.string h.co,.string h.ho,.string h.no,.string h.pl,.slice A h.jo.length c,.int .i64 h.ca,.int .i64 h.vo,.int .i64 h.fr,.int .i64 h.tt] 29)) w.heap.size mc (Fk ((l.take k).map Hd.id))):=aD.alloc _;obtain⟨d,hd⟩:∃x,x=decide (Proper h):=⟨_,rfl⟩;rw[<-hd]at kp;replace hd:=zh hd;replace ad:=zh ad;replace ae:=zh ae;replace hc:=zh hc;replace hj:=zh hj;replace al:=zh al;replace an:=zh an;have x0:=hx.o.c0;have x1:=hx.o.c1;have x2:=hx.o.c2;have x3:=hx.o.c3;have x4:=hx.o.c4;have x5:=hx.o.c5;have x6:=hx.o.c6;have x7:=hx.o.c7;have x8:=hx.o.cell (j:=8) rfl;have x9:=hx.o.cell (j:=9) rfl;have xl:=hx.o.lt
   go_wp2_with fail
   refine kp.o.q fun w3 ah=>?_;have ab:Hid (Below w.heap.size w w3):=ap.o.trans (ah.mono ap.o.size);have aw:Hid (MapK prog 9 κs w3 w.heap.size mc (Fk ((l.take k).map Hd.id))):=aE.o.below ah;have aB:Hid (Bk w3 wz.heap.size 29 [.string h.id,.string h.co,.string h.ho,.string h.no,.string h.pl,.slice A h.jo.length c,.int .i64 h.ca,.int .i64 h.vo,.int .i64 h.fr,.int .i64 h.tt]):=hx.o.below ah;clear x0 x1 x2 x3 x4 x5 x6 x7 x8 x9 xl e0 e1 e2 e3 e4 e5 e6 e7 e8 e9
   cases d with
   |false=>
    have hQ:Hid (false=true<->V):=ad.o fun q=>zu hd.o.symm (ae.o.1 q).1;go_wp2;go_ret;exact⟨_,rfl,hQ.o,ab.o⟩
   |true=>
    have aj:=aw.o.look FV underlying60 (Kl _) (Ex zid);rw[FW]at aj;obtain⟨w5,aq,ax,aA⟩:=aw.o.put EC FV underlying60 (by unfold maxLen;omega) (Ex zid) (.bool true);have aF:Hid (Fl w5 w.heap.size ((l.take (k+1)).map Hd.id) (k+1)):=⟨_,ax.congr (Do _ h.id _ fun y=>by rw[an.o,yQ,ym];exact Or.comm),by split<;>omega⟩;have aC:Hid (Below w.heap.size w w5):=ab.o.grown aA ab.o.size (fun b e=>by cases e;exact zB _);have y0:=aB.o.c0;have yl:=aB.o.lt;obtain⟨d2,ai⟩:∃x,x=decide (h.id∈(l.take k).map Hd.id):=⟨_,rfl⟩;rw[<-ai]at aj;replace ai:=zh ai;clear ax aA
    cases d2 with
    |true=>
     have hQ:Hid (false=true<->V):=ad.o fun q=>(ae.o.1 q).2 (zL ai.o.symm);clear aq;go_wp2;go_ret;exact⟨_,rfl,hQ.o,ab.o⟩
    |false=>
     have aG:=zh (ar.o (ae.o.2 ⟨zL hd.o.symm,zu ai.o.symm⟩));go_wp2;exact⟨⟨k+1,by omega,by go_num,aC,aF,aG⟩,by simp only[intOf];omega⟩
  obtain rfl:k=l.length:=by omega
  have ao:Hid (∀j (h:j<l.length),HW l j h):=fun j h=>hI.o j h h;clear hI
  by_cases h4:l.length<=400
  .have ak:∀x∈l,Proper x:=fun x hx=>by obtain⟨i,hi,rfl⟩:=zg hx;exact((ay.o i hi).1 (ao.o i hi)).1
   have am:∀x∈l,x.jo.length<=4:=fun x hx=>(ak x hx).1.2.2.2.2.2.1;have hN:=O2 am;have kp:=zh (fun W (hb:Below w.heap.size w W)=>GP l A0 cap W (hl.o.below hb) hz.o am (by omega) (by omega));have kb:=zh (fun W (hb:Below w.heap.size w W)=>KE l A0 cap W (hl.o.below hb) hz.o (fun x hx=>⟨(ak x hx).2.2.2.2.1,(ak x hx).2.2.2.2.2.1⟩) aM);replace ak:=zh ak;replace am:=zh am
   go_wp2_with fail
   refine(kp.o _ hB.o).mono ?_;rintro e w3 ⟨ps,A,c,rfl,ag,hS,ah,_⟩;have ab:Hid (Below w.heap.size w w3):=hB.o.trans (ah.mono hB.o.size);replace hS:=zh hS
   by_cases h6:ps.length<=60
   .have hQ:=zh (aK.o ps ao.o h4 ag h6);replace ag:=zh ag
    go_wp2_with fail
    refine(kb.o _ ab.o).q fun w5 aL=>?_;go_wp2;go_ret;exact⟨_,rfl,hQ.o,ab.o.trans (aL.mono ab.o.size)⟩
   have hQ:=zh (aJ.o ps ag h6);have m6:60<ps.length:=by omega
   replace ag:=zh ag;go_wp2;go_ret;exact⟨_,rfl,hQ.o,ab.o⟩
  have hQ:=zh (aI.o h4);have m4:400<l.length:=by omega
  go_wp2;go_ret;exact⟨_,rfl,hQ.o,hB.o⟩
theorem LO(a b:ByteArray):Op.bytesLess a.toList b.toList=decide (ltB a b):=by
 rw[bytesLess_eq,yP,yP];rfl
theorem Xs{ps:List ByteArray}(hp:ps.Pairwise ltB){k:Nat}(hk:k<ps.length):
 Lib.bsGo (fun t=>Op.bytesLess (ps.getD t ps[k]).toList ps[k].toList) ps.length 0 ps.length=k:=by
 have get:∀t (h:t<ps.length),ps.getD t ps[k]=ps[t]:=fun t h=>by rw[xL,zj h];rfl
 have irr:∀a,¬ltB a a:=fun a h=>EB a a h h;refine Lib.bsGo_spec _ k (fun t ht=>?_) (fun t ht=>?_) _ _ _ (by omega) (by omega) (by omega)
 .rw[LO,get t (by omega)];exact zG (List.pairwise_iff_getElem.1 hp t k (by omega) hk ht)
 rw[LO];refine zH fun h=>?_
 by_cases e:t<ps.length
 .rw[get t e]at h
  by_cases e2:t=k
  .subst e2;exact irr _ h
  exact EB _ _ h (List.pairwise_iff_getElem.1 hp k t hk e (by omega))
 rw[xL,List.getElem?_eq_none (by omega)]at h;exact irr _ h
theorem F7(ps:List ByteArray)(b off c k:Nat)(hk:k<ps.length)(w:World)(hc:∀j (h:j<ps.length),w.cell? ⟨b,off+j,none⟩=some (.string ps[j]))(hp:ps.Pairwise ltB)(hl:ps.length<=1000000):
 Calls prog 27 #[.slice (some ⟨b,off,none⟩) ps.length c,.string ps[k]] w fun e w'=>e=.returned (.tuple #[.int .i64 (k:Int),.bool true])/\∃q,w'=w.drewN q:=by
 have h:=Any2.slices_BinarySearch_string Tryz.bsL b off ps.length c (fun t=>ps.getD t ps[k]) ps[k] w (by omega) (fun j hj=>by rw[xL,zj hj];exact hc j hj);rw[Xs hp hk,zG ⟨hk,by rw[xL,zj hk];rfl⟩]at h;exact h
theorem Qk(ps:List ByteArray)(A:Option Addr)(c sb k:Nat)(hk:k<ps.length)(w:World)(hS:InStr w A ps)(hp:ps.Pairwise ltB)(hl:ps.length<=1000000)(hc:w.cell? ⟨sb,0,none⟩=some (.slice A ps.length c)):
 Calls prog 26 #[.string ps[k],.pointer (some ⟨sb,0,none⟩)] w fun e w'=>e=.returned (.int .i64 (k:Int))/\∃q,w'=w.drewN q:=by
 obtain⟨b,off,rfl,h,d⟩:=hS (by omega);have ks:=zh (F7 ps b off c k hk w d hp hl);clear d hp;generalize ps[k]=s at ks;go_enter func26,ntmps26
 go_wp2_with fail
 refine ks.o.mono ?_;rintro e w' ⟨rfl,q,rfl⟩;go_wp2;go_ret;exact⟨rfl,q,rfl⟩
end Rg
end
section
open Go.RowKit Go.Shelf Go.ChangeMaps
namespace Rg
open Nt Ci
def Hi(n:Int):Prop:=-9223372036854775808<=n/\n<=9223372036854775807
def Kk:={ x:Int×Int // Hi x.1/\Hi x.2 }
instance:DecidableEq Kk:=fun a b=>decidable_of_iff (a.1=b.1) Subtype.ext_iff.symm
def κk(x:Kk):Lit:=.string (keyBytes [.int .i64 x.1.1,.int .i64 x.1.2])
theorem Wv(P:Program)(m:Nat)(t ti:TypeId)(f1 f2:Field)(hu:P.underlying t=some (.struct #[f1, f2]))(hc:P.cellsOf t=2)(n1:f1.name≠"_")(n2:f2.name≠"_")(o1:f1.offset=0)(o2:f2.offset=1)(t1:f1.type=ti)(t2:f2.type=ti)
 (ui:P.underlying ti=some (.int .i64))(ci:P.cellsOf ti=1)(a b:Int)(ha:(Lit.int .i64 a).wf=true)(hb:(Lit.int .i64 b).wf=true):
 P.keyLits (m+2) t [.int .i64 a,.int .i64 b]=some [.int .i64 a,.int .i64 b]:=by
 subst t1;simp[Program.keyLits,hu,hc,n1,n2,o1,o2,ui,ci,t2,ha,hb]
theorem LP{P:Program}{t:TypeId}{fs:Array Field}{cs:Array Value}{ls:List Lit}{m:Nat}(hu:P.underlying t=some (.struct fs))(hk:P.keyType t=true)(hf:(Value.agg cs).formed P t=true)(hm:P.types.size+1=m+2)(hl:P.keyLits (m+2) t (Value.agg cs).cells.toList=some ls):
 keyOf P t (.agg cs)=some (.string (keyBytes ls)):=by
 unfold keyOf;rw[hu];simp only[hk,hf,Bool.and_true,wm,hm,hl,Option.map_some]
theorem Tm:laidOutB prog=true:=by kernel_rfl
theorem Xt:(69:TypeId)<prog.types.size:=zL (by kernel_rfl)
theorem Xu:(match prog.underlying 69 with|some (.array _ _)|some (.struct _)=>true|_=>false)=true:=by rw[underlying69]
theorem Xv:prog.keyTypeAt 2 69=true:=by kernel_rfl
theorem Xw:WideMaps.KeyLaw prog 69:=deep_law_laid Tm (m:=2) (Nat.le_of_ble_eq_true rfl) Xt Xv Xu
theorem FI:Go.Maps.Keyed prog 69:=Go.Maps.Keyed.of_law Xw
theorem NC:prog.cellsOf 69=2:=by kernel_rfl
theorem O3:prog.cellsOf 3=1:=by kernel_rfl
theorem Tn:prog.keyType 69=true:=by kernel_rfl
theorem Vz:∃m,prog.types.size+1=m+2:=by
 have h:=Xt;generalize prog.types.size=n at h;exact⟨n-1,by have:=yA (zQ _) h;omega⟩
theorem LQ(x:Kk):keyOf prog 69 (.agg #[.int .i64 x.1.1,.int .i64 x.1.2])=some (κk x):=by
 obtain⟨⟨a,b⟩,h1,h2⟩:=x;have hf:(Value.agg #[.int .i64 a,.int .i64 b]).formed prog 69=true:=by simp[Value.formed,underlying69,NC]
 obtain⟨m,hm⟩:=Vz;exact LP underlying69 Tn hf hm (Wv prog m 69 3 _ _ underlying69 NC (by decide) (by decide) rfl rfl rfl rfl underlying3 O3 a b (WalkArith.wf_i64 h1) (WalkArith.wf_i64 h2))
theorem To:∀x y:Kk,κk x=κk y->x=y:=fun x y h=>by
 have h1:=FI.inj (LQ x) (h▸LQ y);obtain⟨⟨a,b⟩,hx⟩:=x;obtain⟨⟨c,d⟩,hy⟩:=y;simp only[Value.agg.injEq,Array.mk.injEq,List.cons.injEq,Value.int.injEq,true_and,and_true]at h1;obtain⟨rfl,rfl⟩:=h1;rfl
theorem HI(w:World):(zeroValue 3).run prog w=.ok (.int .i64 0) w:=by kernel_rfl
theorem I5(w:World)(b:Nat)(o1 o2:Obj):setBlock (setBlock w b o1) b o2=setBlock w b o2:=by
 unfold setBlock;simp
theorem MapK.entry{α:Type}[DecidableEq α]{P:Program}{k t e:TypeId}{κ:α->Lit}{w:World}{b c:Nat}{f:α->Option Value}(h:MapK P k κ w b c f)(hκ:∀x y,κ x=κ y->x=y)(Kd:Go.Maps.Keyed P k)(K:WideMaps.KeyLaw P k)(ht:P.underlying t=some (.map k e)){z:Value}(hz:∀u:World,(zeroValue e).run P u=.ok z u)(hn:c<maxLen){key:Value}{x:α}(d:keyOf P k key=some (κ x)):
 ∃ st w1,(Instr.mapEntry t (.map (some b)) key).run P w=.ok (.tuple #[(f x).getD z,goInt st]) w1/\MapK P k κ w1 b (if (f x).isSome then c else c+1) (HH f x (some ((f x).getD z)))/\w.grownBy w1 (some b) /\
  ∀v,∃w',(Instr.entryStore t (.map (some b)) (goInt st) v).run P w1=.ok () w'/\MapK P k κ w' b (if (f x).isSome then c else c+1) (HH f x (some v))/\w.grownBy w' (some b):=by
 have aa:=h.look Kd ht (hz w) d;obtain⟨D,ae,_,_⟩:=id h;obtain⟨es,clock,hb,F,_,_⟩:=ae;obtain⟨v0,st,ad,clock1,hE,_,hS⟩:=WideElems.entry_then_store K ht hz hb F d
 have ag:(setBlock w b (.map ad clock1)).heap[b]? = some (.map ad clock1):=by
  have:=(Array.getElem?_eq_some_iff.1 hb).1;simp[setBlock,this]
 have key:v0=(f x).getD z/\(Instr.mapUpdate t (.map (some b)) key v0).run P w=.ok () (setBlock w b (.map ad clock1)):=by
  rcases K.find w d es.toList F.keys with⟨h1,h2⟩|⟨j,e0,h1,h2,h3⟩
  .simp[Instr.mapEntry,run_underlying ht,MapKept.run_getObj_map hb,K.check w false d,h1,hz,MapKept.run_setObj_map _ hb,Result.andThen,setBlock]at hE;simp[Instr.lookup,run_underlying ht,MapKept.run_getObj_map hb,K.check w _ d,h1,hz,Result.andThen]at aa;obtain⟨⟨rfl,_⟩,hw⟩:=hE;refine⟨aa,?_⟩;simp[Instr.mapUpdate,run_underlying ht,MapKept.run_getObj_map hb,K.check w false d,h1,MapKept.run_setObj_map _ hb,Result.andThen,setBlock];exact hw
  have hj:es[j]? = some e0:=by simpa using h2
  simp[Instr.mapEntry,run_underlying ht,MapKept.run_getObj_map hb,K.check w false d,h1,hj,h3,K.stays w d,MapKept.run_setObj_map _ hb,Result.andThen,setBlock]at hE;simp[Instr.lookup,run_underlying ht,MapKept.run_getObj_map hb,K.check w _ d,h1,Result.andThen]at aa;obtain⟨⟨rfl,_⟩,hw⟩:=hE;refine⟨aa,?_⟩
  have hm:(es.modify j fun e=>{ key:=key,val:=e0.val,born:=e.born })=es.modify j fun e=>{ key:=key,val:=e.val,born:=e.born }:=by
   apply Array.ext';rw[Array.toList_modify,Array.toList_modify,modify_eq_set _ _ _ _ h2,modify_eq_set _ _ _ _ h2]
  simp[Instr.mapUpdate,run_underlying ht,MapKept.run_getObj_map hb,K.check w false d,h1,hj,h3,K.stays w d,MapKept.run_setObj_map _ hb,Result.andThen,setBlock];rw[hm];exact hw
 obtain⟨w1,ab,hM,hg⟩:=h.put hκ Kd ht hn d v0;rw[key.2]at ab;simp only[Result.ok.injEq,true_and]at ab;subst ab;rw[key.1]at hE hM;refine⟨st,_,hE,hM,hg,fun v=>?_⟩;obtain⟨w',ab,af,ah⟩:=h.put hκ Kd ht hn d v;obtain⟨es',clock',h1,h2⟩:=hS _ v ag;rw[ab]at h2;simp only[Result.ok.injEq,true_and]at h2;refine⟨w',?_,af,ah⟩;rw[h1,I5,h2]
end Rg
end
section
open Go.RowKit Go.Shelf
namespace Rg
open Nt Ci
structure PlIn(w:World)(ps:List ByteArray)(A:Option Addr)(c sb ob:Nat):Prop where
 r:InStr w A ps
 p:ps.Pairwise ltB
 n:ps.length<=1000000
 b:w.cell? ⟨sb,0,none⟩=some (.slice A ps.length c)
 bl:sb<w.heap.size
 o:w.cell? ⟨ob,0,none⟩=some (.func (.func 26) #[] #[.pointer (some ⟨sb,0,none⟩)])
 ol:ob<w.heap.size
theorem PlIn.below{w w':World}{ps:List ByteArray}{A:Option Addr}{c sb ob:Nat}(h:PlIn w ps A c sb ob)(hb:Below w.heap.size w w'):PlIn w' ps A c sb ob :=
 ⟨h.r.below hb,h.p,h.n,(hb.cell (p:=⟨sb,0,none⟩) h.bl).trans h.b,zJ h.bl hb.size,(hb.cell (p:=⟨ob,0,none⟩) h.ol).trans h.o,zJ h.ol hb.size⟩
theorem PlIn.grown{w w':World}{ps:List ByteArray}{A:Option Addr}{c sb ob:Nat}{row:Option Nat}(h:PlIn w ps A c sb ob)(hg:w.grownBy w' row)(h1:some sb≠row)(h2:some ob≠row)(h3:∀b off,A=some ⟨b,off,none⟩->some b≠row):PlIn w' ps A c sb ob :=
 ⟨InStr.grown h.r hg h3,h.p,h.n,(hg.cell_far ⟨sb,0,none⟩ h.bl h1).trans h.b,zJ h.bl hg.size,(hg.cell_far ⟨ob,0,none⟩ h.ol h2).trans h.o,zJ h.ol hg.size⟩
theorem PlIn.drewN{w:World}{ps:List ByteArray}{A:Option Addr}{c sb ob:Nat}(h:PlIn w ps A c sb ob)(q:Nat):PlIn (w.drewN q) ps A c sb ob:=⟨h.r,h.p,h.n,h.b,h.bl,h.o,h.ol⟩
abbrev Ct:=(ByteArray×ByteArray)×Int
theorem I6(D:List Ct)(x:Ct)(k:ByteArray×ByteArray):tot (D++[x]) k=tot D k+if x.1=k then x.2 else 0:=by
 unfold tot;rw[yL,zw,List.sum_append]
 congr 1
 by_cases e:x.1=k
 .rw[zD e,zk,zD (zG e)];simp
 rw[zC e,zk,zC (by rw[zH e];decide)];simp
theorem Tp{D:List Ct}{k:ByteArray×ByteArray}(h:¬∃v,(k,v)∈D):tot D k=0:=by
 unfold tot;have:D.filter (fun x=>decide (x.1=k))=[]:=List.filter_eq_nil_iff.2 fun x hx hq=>h ⟨x.2,by rw[<-zL hq];exact hx⟩;rw[this];rfl
def Mod(D:List Ct):Prop:=∀x∈D,0<=x.2/\x.2<=6000
theorem ND{D:List Ct}(h:Mod D)(k:ByteArray×ByteArray):0<=tot D k/\tot D k<=6000*D.length:=by
 unfold tot
 induction D with
 |nil=>exact⟨Int.le_refl _,Int.le_refl _⟩
 |cons x D ih=>
  have h1:=h x zf;have h2:=ih fun y hy=>h y (zY _ hy);rw[zk,zZ]
  split
  .rw[yy,List.sum_cons];omega
  omega
def nm(ps:List ByteArray)(i:Int):ByteArray:=ps.getD i.toNat ⟨#[]⟩
theorem EQ{ps:List ByteArray}{i:Nat}(h:i<ps.length):nm ps (i:Int)=ps[i]:=by
 unfold nm;rw[wL,xL,zj h];rfl
def KF(ps:List ByteArray)(D:List Ct)(x:Int×Int):Prop:=0<=x.1/\0<=x.2/\x.1.toNat<ps.length/\x.2.toNat<ps.length/\∃v,((nm ps x.1,nm ps x.2),v)∈D
open Classical in
noncomputable def Ey(ps:List ByteArray)(D:List Ct):Kk->Option Value:=fun x=>if KF ps D x.1 then some (.int .i64 (tot D (nm ps x.1.1,nm ps x.1.2))) else none
theorem JK{ps:List ByteArray}(D:List Ct)(x:Kk)(h:0<=x.1.1/\0<=x.1.2/\x.1.1.toNat<ps.length/\x.1.2.toNat<ps.length):(Ey ps D x).getD (.int .i64 0)=.int .i64 (tot D (nm ps x.1.1,nm ps x.1.2)):=by
 unfold Ey
 by_cases e:KF ps D x.1
 .rw[zD e];rfl
 rw[zC e,Tp fun q=>e ⟨h.1,h.2.1,h.2.2.1,h.2.2.2,q⟩];rfl
theorem KG{ps:List ByteArray}(hp:ps.Pairwise ltB){i j:Int}(hi:0<=i/\i.toNat<ps.length)(hj:0<=j/\j.toNat<ps.length)(e:nm ps i=nm ps j):i=j:=by
 obtain⟨a,rfl⟩:∃a:Nat,i=a:=⟨i.toNat,by omega⟩;obtain⟨b,rfl⟩:∃b:Nat,j=b:=⟨j.toNat,by omega⟩;rw[wL]at hi hj;rw[EQ hi.2,EQ hj.2]at e
 rcases Nat.lt_trichotomy a b with h|h|h
 .have:=List.pairwise_iff_getElem.1 hp a b hi.2 hj.2 h;rw[e]at this;exact absurd this (EB _ _ this)
 .rw[h]
 have:=List.pairwise_iff_getElem.1 hp b a hj.2 hi.2 h;rw[e]at this;exact absurd this (EB _ _ this)
theorem Ql{ps:List ByteArray}(hp:ps.Pairwise ltB)(D:List Ct)(x:Kk)(h:0<=x.1.1/\0<=x.1.2/\x.1.1.toNat<ps.length/\x.1.2.toNat<ps.length)(v:Int):
 ∀y,HH (Ey ps D) x (some (.int .i64 (tot D (nm ps x.1.1,nm ps x.1.2)+v))) y=Ey ps (D++[((nm ps x.1.1,nm ps x.1.2),v)]) y:=fun y=>by
 by_cases e:y=x
 .subst e;rw[Bg];unfold Ey;rw[zD (show KF _ _ _ from⟨h.1,h.2.1,h.2.2.1,h.2.2.2,v,wC _ (List.mem_singleton.2 rfl)⟩),I6,zD rfl]
 rw[Bj e];unfold Ey
 by_cases q:KF ps D y.1
 .have ne:(nm ps x.1.1,nm ps x.1.2)≠(nm ps y.1.1,nm ps y.1.2):=fun c=>by
   rw[Prod.mk.injEq]at c;refine e (Subtype.ext (Prod.ext ?_ ?_))
   .exact(KG hp ⟨h.1,h.2.2.1⟩ ⟨q.1,q.2.2.1⟩ c.1).symm
   exact(KG hp ⟨h.2.1,h.2.2.2⟩ ⟨q.2.1,q.2.2.2.1⟩ c.2).symm
  rw[zD q,zD (show KF _ _ _ from⟨q.1,q.2.1,q.2.2.1,q.2.2.2.1,q.2.2.2.2.imp fun v hv=>xA _ hv⟩),I6,zC ne,Int.add_zero]
 rw[zC q,zC];rintro⟨a,b,c,d,u,hu⟩
 rcases List.mem_append.1 hu with hu|hu
 .exact q ⟨a,b,c,d,u,hu⟩
 have c1:=congrArg Prod.fst (List.mem_singleton.1 hu);rw[Prod.mk.injEq]at c1;refine e (Subtype.ext (Prod.ext ?_ ?_))
 .exact KG hp ⟨a,c⟩ ⟨h.1,h.2.2.1⟩ c1.1
 exact KG hp ⟨b,d⟩ ⟨h.2.1,h.2.2.2⟩ c1.2
def BTq(who:List ByteArray)(co:ByteArray)(p:Int)(n:Nat):List Ct:=(who.filter fun x=>decide (0<p)&&decide (x≠co)).map fun x=>((co,x),p*60/n)
def LkM(W:World)(b:Nat)(ps:List ByteArray)(D:List Ct):Prop:=∃c,MapK prog 69 κk W b c (Ey ps D)/\c<=D.length
end Rg
end
section
open Go.RowKit Go.Shelf
namespace Rg
open Nt Ci
def Ww(k:Nat):Code->Bool
 |.region j _ _=>j==k
 |_=>false
theorem PlIn.drew{w:World}{ps:List ByteArray}{A:Option Addr}{c sb ob:Nat}(h:PlIn w ps A c sb ob):PlIn w.drew ps A c sb ob:=⟨h.r,h.p,h.n,h.b,h.bl,h.o,h.ol⟩
theorem Hb(w:World)(q:Nat)(row:Option Nat):w.grownBy (w.drewN q) row:=⟨rfl,rfl,rfl,zB _,fun _ _ _=>rfl⟩
theorem LkM.drewN{W:World}{b:Nat}{ps:List ByteArray}{D:List Ct}(h:LkM W b ps D)(q:Nat):LkM (W.drewN q) b ps D:=h
noncomputable def atR(j:Nat):Code:=((Tryz.f28.body.map Ci.Bo).bind fun l=>l.find? (Ww j)).getD .skip
theorem sh4{c5 c6 c7 c8 c9 az aA aB aC aD aE aF aG aH aI aJ aK aL aM aX aY aZ a0 a1 a2 a3 a4 a5 a6 a7 a8 a9 ba bb bc bd:Value}{Q:Exit->Act->World->Prop}(ps:List ByteArray)(A Aw:Option Addr)(c cw sb ob mb ci si n:Nat)(tc ts:ByteArray)(P:Int)(D:List Ct)(w:World)(hI:PlIn w ps A c sb ob)(hM:LkM w mb ps D)(hD:Mod D)(bi:D.length<=2000000)(ar:ci<ps.length)(ay:si<ps.length)(an:ps[ci]=tc)(ao:ps[si]=ts)(hP:0<=P/\P<=100)(hn:0<n/\n<=1000)(h1:sb≠mb)(h2:ob≠mb)(h3:∀b off,A=some ⟨b,off,none⟩->b≠mb)
 (h:∀(u24 u25 u26 u27 u28 u29 u30 u31 u32 u33 u34 u35 u36 u37 u38 u39 u40:Value)(W:World)(_:Hid (LkM W mb ps (D++[((tc,ts),P*60/n)])))(_:Hid (w.grownBy W (some mb))),Q .normal ⟨#[.map (some mb),.string tc,.int .i64 P,.slice Aw n cw,.pointer (some ⟨ob,0,none⟩),c5,c6,c7,c8,c9,.string ts,az,aA,aB,aC,aD,aE,aF,aG,aH,aI,aJ,aK,aL,u24,u25,u26,u27,u28,u29,u30,u31,u32,u33,u34,u35,u36,u37,u38,u39,u40,aM],[]⟩ W):
 Code.wp prog (atR 4) Q ⟨#[.map (some mb),.string tc,.int .i64 P,.slice Aw n cw,.pointer (some ⟨ob,0,none⟩),c5,c6,c7,c8,c9,.string ts,az,aA,aB,aC,aD,aE,aF,aG,aH,aI,aJ,aK,aL,aX,aY,aZ,a0,a1,a2,a3,a4,a5,a6,a7,a8,a9,ba,bb,bc,bd,aM],[]⟩ w:=by
 conv=>arg 2;whnf
 conv=>arg 4;zeta
 replace h:=zh h;have kp:Hid (∀W,PlIn W ps A c sb ob->∀i (hi:i<ps.length),Calls prog 26 #[.string ps[i],.pointer (some ⟨sb,0,none⟩)] W fun e w'=>e=.returned (.int .i64 (i:Int))/\∃q,w'=W.drewN q):=fun W h i hi=>Qk ps A c sb i hi W h.r h.p h.n h.b;have kc:Hid (∀W,PlIn W ps A c sb ob->Calls prog 26 #[.string tc,.pointer (some ⟨sb,0,none⟩)] W fun e w'=>e=.returned (.int .i64 (ci:Int))/\∃q,w'=W.drewN q):=fun W h=>by rw[<-an];exact kp.o W h ci ar
 have ks:Hid (∀W,PlIn W ps A c sb ob->Calls prog 26 #[.string ts,.pointer (some ⟨sb,0,none⟩)] W fun e w'=>e=.returned (.int .i64 (si:Int))/\∃q,w'=W.drewN q):=fun W h=>by rw[<-ao];exact kp.o W h si ay
 have bo:=hI.n;have ax:=hI.p;obtain⟨kx,ai⟩:∃x:Kk,x.1=((ci:Int),(si:Int)):=⟨⟨((ci:Int),(si:Int)),⟨by omega,by omega⟩,⟨by show (-9223372036854775808:Int)<=(si:Int);omega,by show (si:Int)<=9223372036854775807;omega⟩⟩,rfl⟩;have ad:=LQ kx;rw[ai]at ad;have am:0<=kx.1.1/\0<=kx.1.2/\kx.1.1.toNat<ps.length/\kx.1.2.toNat<ps.length:=by rw[ai];exact⟨by omega,by omega,by simpa using ar,by simpa using ay⟩
 have aw:(nm ps kx.1.1,nm ps kx.1.2)=(tc,ts):=by rw[ai];show (nm ps (ci:Int),nm ps (si:Int))=_;rw[EQ ar,EQ ay,an,ao]
 have ae:=Ql ax D kx am (P*60/n);have ab:=JK D kx am;rw[aw]at ae ab;obtain⟨T,hT⟩:∃x,x=tot D (tc,ts):=⟨_,rfl⟩;have ak:=ND hD (tc,ts);rw[<-hT]at ae ab ak;have bh:0<=T/\T<=12000000000:=⟨ak.1,by have:=ak.2;omega⟩;obtain⟨V,hV⟩:∃x,x=P*60/(n:Int):=⟨_,rfl⟩;have bj:0<=V:=by rw[hV];exact Int.ediv_nonneg (by omega) (by omega)
 have bk:V<=6000:=by rw[hV];exact Int.le_trans (Int.ediv_le_self _ (by omega)) (by omega)
 have bm:Int.tdiv (P*60) (n:Int)=V:=by rw[hV];exact Int.tdiv_eq_ediv_of_nonneg (by omega)
 have m1:IntKind.i64.wrap (P*60)=P*60:=xx _ (by omega);have m2:IntKind.i64.wrap V=V:=xx _ (by omega);have m3:IntKind.i64.wrap (T+V)=T+V:=xx _ (by omega);rw[<-hV]at ae h;have n0:((n:Int)==0)=false:=beq_eq_false_iff_ne.2 (by omega);have n1:¬n=0:=by omega
 have ap:Hid (PlIn w.drew ps A c sb ob):=hI.drew;have be:Hid (LkM w.drew mb ps D):=hM;have bg:Hid (w.grownBy w.drew (some mb)):=⟨rfl,rfl,rfl,zB _,fun _ _ _=>rfl⟩;replace hI:=zh hI;replace hM:=zh hM;replace ae:=zh ae;replace ab:=zh ab;replace ad:=zh ad;replace hT:=zh hT;replace hV:=zh hV;replace ax:=zh ax;replace hD:=zh hD;replace aw:=zh aw;replace am:=zh am;replace ai:=zh ai;replace an:=zh an;replace ao:=zh ao;clear ak;refine yx ?_;refine yq (S:=fun W=>W.cell? ⟨ob,0,none⟩=some (.func (.func 26) #[] #[.pointer (some ⟨sb,0,none⟩)])) (by kernel_rfl) (ap.o.o) (fun aa=>?_);replace aa:=zh aa;refine tkgK (v:=?_) 0 rfl (aa.o) (Or.inl ⟨by rfl,?_⟩) ?_;rotate_left
 . (intro w d;obtain q1:=d;go_simp<;>with_reducible rfl)
 try simp only[Act.put,zA]
 refine tkgK (v:=?_) 1 rfl (aa.o) (Or.inl ⟨by rfl,?_⟩) ?_;rotate_left
 . (intro w d;obtain q1:=d;go_simp<;>with_reducible rfl)
 try simp only[Act.put]
 refine tkgK (v:=?_) 2 rfl (aa.o) (Or.inl ⟨by rfl,?_⟩) ?_;rotate_left
 . (intro w d;obtain q1:=d;go_simp<;>with_reducible rfl)
 try simp only[Act.put]
 refine tkgK (v:=?_) 4 rfl (aa.o) (Or.inl ⟨by rfl,?_⟩) ?_;rotate_left
 . (intro w d;obtain q1:=d;go_simp<;>with_reducible rfl)
 try simp only[Act.put]
 refine tkgK (v:=?_) 5 rfl (aa.o) (Or.inl ⟨by rfl,?_⟩) ?_;rotate_left
 . (intro w d;obtain q1:=d;go_simp<;>with_reducible rfl)
 try simp only[Act.put]
 refine tkgK (v:=?_) 9 rfl (aa.o) (Or.inl ⟨by rfl,?_⟩) ?_;rotate_left
 . (intro w d;obtain q1:=d;go_simp<;>with_reducible rfl)
 try simp only[Act.put]
 refine tkgK (v:=?_) 10 rfl (aa.o) (Or.inl ⟨by rfl,?_⟩) ?_;rotate_left
 . (intro w d;obtain q1:=d;go_simp<;>with_reducible rfl)
 try simp only[Act.put]
 refine tkgK (v:=?_) 11 rfl (aa.o) (Or.inl ⟨by rfl,?_⟩) ?_;rotate_left
 . (intro w d;obtain q1:=d;go_simp<;>with_reducible rfl)
 try simp only[Act.put]
 refine tkgK (v:=?_) 12 rfl (aa.o) (Or.inl ⟨by rfl,?_⟩) ?_;rotate_left
 . (intro w d;obtain q1:=d;go_simp<;>with_reducible rfl)
 try simp only[Act.put]
 refine tkgK (v:=?_) 13 rfl (aa.o) (Or.inl ⟨by rfl,?_⟩) ?_;rotate_left
 . (intro w d;obtain q1:=d;go_simp<;>with_reducible rfl)
 try simp only[Act.put]
 refine zU (rs:=[3]) (by kernel_rfl) (by simp) ?_;refine zK (o:=_) rfl (fun K hK=>?_) ?_
 .go_simp;refine(kc.o _ ap.o).mono ?_;rintro e W2 ⟨rfl,q,rfl⟩;have aj:Hid (PlIn (w.drew.drewN q) ps A c sb ob):=ap.o.drewN q;have aO:Hid (LkM (w.drew.drewN q) mb ps D):=be;have aT:Hid (w.grownBy (w.drew.drewN q) (some mb)):=bg.o.trans (Hb _ _ _);generalize w.drew.drewN q=w2 at aj aO aT ⊢;refine hK.o _ _ (aj.o.o) (fun _=>?_);clear hK K
  try simp only[Act.put,zA,zF,zE]
  refine zU (rs:=[6]) (by kernel_rfl) (by simp) ?_;refine zK (o:=_) rfl (fun K hK=>?_) ?_
  .go_simp;refine(ks.o _ aj.o).mono ?_;rintro e W3 ⟨rfl,q2,rfl⟩;have af:Hid (PlIn (w2.drewN q2) ps A c sb ob):=aj.o.drewN q2;have aP:Hid (LkM (w2.drewN q2) mb ps D):=aO;have aU:Hid (w.grownBy (w2.drewN q2) (some mb)):=aT.o.trans (Hb _ _ _);generalize w2.drewN q2=w3 at af aP aU ⊢;refine hK.o _ _ (af.o.o) (fun _=>?_);clear hK K
   try simp only[Act.put,zA,zF,zE]
   refine tkgK (v:=?_) 7 rfl (af.o.o) (Or.inl ⟨by rfl,?_⟩) ?_;rotate_left
   . (intro w d;obtain q1:=d;go_simp<;>with_reducible rfl)
   try simp only[Act.put,zA]
   obtain⟨mc,aq,bn⟩:=aP.o;have av:=aq.look FI underlying64 (HI _) ad.o;rw[ab.o]at av;obtain⟨st,w4,hE,ah,aV,aS⟩:=MapK.entry aq To FI Xw underlying64 HI (by unfold maxLen;omega) ad.o;obtain⟨w5,bf,aQ,au⟩:=aS (.int .i64 (T+V));simp only[goInt]at bf;rw[ab.o]at hE ah;have al:=ah.look FI underlying64 (HI _) ad.o;rw[Bg]at al;have ag:Hid (PlIn w4 ps A c sb ob):=af.o.grown aV (fun e=>h1 (Option.some.inj e)) (fun e=>h2 (Option.some.inj e)) (fun b off e f=>h3 b off e (Option.some.inj f));have aN:Hid (PlIn w5 ps A c sb ob):=af.o.grown au (fun e=>h1 (Option.some.inj e)) (fun e=>h2 (Option.some.inj e)) (fun b off e f=>h3 b off e (Option.some.inj f));have aR:Hid (LkM w5 mb ps (D++[((tc,ts),V)])):=⟨_,aQ.congr ae.o,by rw[zV];split<;>simp<;>omega⟩;have aW:Hid (w.grownBy w5 (some mb)):=aU.o.trans au;clear aq ah aS aQ aV au;refine zU (rs:=[8,15]) (by kernel_rfl) (by simp) ?_;refine zK (o:=_) rfl (fun K hK=>?_) ?_
   .go_simp;refine hK.o _ _ (af.o.o) (fun _=>?_);clear hK K
    try simp only[Act.put,zA,zF,zE]
    refine tkgK (v:=?_) 14 rfl (af.o.o) (Or.inl ⟨by rfl,?_⟩) ?_;rotate_left
    . (intro w d;obtain q1:=d;go_simp<;>with_reducible rfl)
    try simp only[Act.put,zA]
    refine zU (rs:=[15]) (by kernel_rfl) (by simp) ?_;refine zK (o:=_) rfl (fun K hK=>?_) ?_
    .go_simp;refine hK.o _ _ (ag.o.o) (fun _=>?_);clear hK K
     try simp only[Act.put,zA,zF,zE]
     refine tkgK (v:=?_) 16 rfl (ag.o.o) (Or.inl ⟨by rfl,?_⟩) ?_;rotate_left
     . (intro w d;obtain q1:=d;go_simp<;>with_reducible rfl)
     try simp only[Act.put,zA]
     refine zU (rs:=[17]) (by kernel_rfl) (by simp) ?_;refine zK (o:=_) rfl (fun K hK=>?_) ?_
     .go_simp;refine hK.o _ _ (aN.o.o) (fun _=>?_);clear hK K
      try simp only[Act.put,zA,zF,zE]
      refine yz (by kernel_rfl) ?_ _;refine yX ?_;exact h.o _ _ _ _ _ _ _ _ _ _ _ _ _ _ _ _ _ _ aR aW
     exact zR
    exact zR
   refine zK (o:=_) rfl (fun K hK=>?_) ?_
   .go_simp;refine hK.o _ _ (ag.o.o) (fun _=>?_);clear hK K
    try simp only[Act.put,zA,zF,zE]
    refine tkgK (v:=?_) 16 rfl (ag.o.o) (Or.inl ⟨by rfl,?_⟩) ?_;rotate_left
    . (intro w d;obtain q1:=d;go_simp<;>with_reducible rfl)
    try simp only[Act.put,zA]
    refine zU (rs:=[8]) (by kernel_rfl) (by simp) ?_;refine zK (o:=_) rfl (fun K hK=>?_) ?_
    .go_simp;refine hK.o _ _ (ag.o.o) (fun _=>?_);clear hK K
     try simp only[Act.put,zA,zF,zE]
     refine tkgK (v:=?_) 14 rfl (ag.o.o) (Or.inl ⟨by rfl,?_⟩) ?_;rotate_left
     . (intro w d;obtain q1:=d;go_simp<;>with_reducible rfl)
     try simp only[Act.put,zA]
     refine zU (rs:=[17]) (by kernel_rfl) (by simp) ?_;refine zK (o:=_) rfl (fun K hK=>?_) ?_
     .go_simp;refine hK.o _ _ (aN.o.o) (fun _=>?_);clear hK K
      try simp only[Act.put,zA,zF,zE]
      refine yz (by kernel_rfl) ?_ _;refine yX ?_;exact h.o _ _ _ _ _ _ _ _ _ _ _ _ _ _ _ _ _ _ aR aW
     exact zR
    exact zR
   exact zR
  exact zR
 exact zR
theorem JL(ps:List ByteArray)(A:Option Addr)(c sb ob mb:Nat)(D:List Ct)(who:List ByteArray)(Aw:Option Addr)(cw:Nat)(co:ByteArray)(P:Int)(w:World)(hI:PlIn w ps A c sb ob)(hw:InStr w Aw who)(hM:LkM w mb ps D)(hD:Mod D)(aq:D.length<=1000000)(au:who.length<=1000)(hP:0<=P/\P<=100)(am:co∈ps)(af:∀x∈who,x∈ps)(h1:sb≠mb)(h2:ob≠mb)(h3:∀b off,A=some ⟨b,off,none⟩->b≠mb)(h4:∀b off,Aw=some ⟨b,off,none⟩->b≠mb):
 Calls prog 28 #[.map (some mb),.string co,.int .i64 P,.slice Aw who.length cw,.pointer (some ⟨ob,0,none⟩)] w fun e w'=>e=.returned (.tuple #[])/\LkM w' mb ps (D++BTq who co P who.length)/\w.grownBy w' (some mb):=by
 replace hI:=zh hI;replace hw:=zh hw;replace hM:=zh hM;replace hD:=zh hD;replace af:=zh af;go_enter func28,ntmps28;go_wp2
 go_loopw [13] (fun i wr=>∃k:Nat,k<=who.length/\i=.int .i64 (k:Int)/\Hid (w.grownBy wr (some mb))/\Hid (LkM wr mb ps (D++BTq (who.take k) co P who.length))) (fun i _=>who.length-(intOf i).toNat)
 case atStart=>exact⟨0,zQ _,rfl,World.grownBy.refl _ _,by simpa [BTq] using hM⟩
 case round=>
  obtain⟨k,hk,rfl,hg,aa⟩:=hrel;obtain⟨wz,rfl⟩:∃z,z=wr:=⟨_,rfl⟩
  by_cases hlt:k<who.length
  .have aj:Hid (PlIn wz ps A c sb ob):=hI.o.grown hg.o (fun e=>h1 (Option.some.inj e)) (fun e=>h2 (Option.some.inj e)) (fun b off e f=>h3 b off e (Option.some.inj f));obtain⟨b,off,rfl,ar,ah⟩:=(InStr.grown hw.o hg.o (fun b off e f=>h4 b off e (Option.some.inj f))) (by omega);have e0:=ah k hlt;have ai:=af.o who[k] (zN hlt);have d:who.take (k+1)=who.take k++[who[k]]:=zO hlt;have k0:(0:Int)<=(k:Int):=by omega
   have k1:(k:Int)<(who.length:Int):=by omega
   generalize who[k]=s at e0 ai d;clear ah h4
   by_cases c1:0<P
   .by_cases c2:s=co
    .have m2:s.toList=co.toList:=by rw[c2]
     have hN:Hid (LkM wz mb ps (D++BTq (who.take (k+1)) co P who.length)):=by
      have:BTq (who.take (k+1)) co P who.length=BTq (who.take k) co P who.length:=by
       unfold BTq;rw[d,yL,zk,zC (by rw[c2];simp)];simp
      rw[this];exact aa
     subst c2;replace d:=zh d;clear m2;go_wp2;exact⟨⟨k+1,by omega,by go_num,hg,hN⟩,by simp only[intOf];omega⟩
    have m2:¬s.toList=co.toList:=fun h=>c2 (zL ((@Bh s co).symm.trans (beq_iff_eq.2 h)));have m3:(s.toList==co.toList)=false:=(@Bh s co).trans (zH c2)
    have hA:BTq (who.take (k+1)) co P who.length=BTq (who.take k) co P who.length++[((co,s),P*60/who.length)]:=by
     unfold BTq;rw[d,yL,zk,zD (by rw[zG c1,zG c2];rfl),zw];simp
    obtain⟨ci,al,ad⟩:=zg am;obtain⟨si,ap,ae⟩:=zg ai
    have ab:Mod (D++BTq (who.take k) co P who.length):=fun x hx=>by
     rcases List.mem_append.1 hx with hx|hx
     .exact hD.o x hx
     unfold BTq at hx;obtain⟨y,_,rfl⟩:=List.mem_map.1 hx
     show 0<=P*60/(who.length:Int)/\_
     exact⟨Int.ediv_nonneg (by omega) (by omega),Int.le_trans (Int.ediv_le_self _ (by omega)) (by omega)⟩
    have ag:(D++BTq (who.take k) co P who.length).length<=2000000:=by
     rw[zV]
     have:(BTq (who.take k) co P who.length).length<=who.length:=by
      unfold BTq;rw[zW];exact zS (zr _ _) (by rw[yt];omega)
     omega
    obtain⟨n,hn⟩:∃n,n=who.length:=⟨_,rfl⟩;replace d:=zh d;replace hA:=zh hA;replace ad:=zh ad;replace ae:=zh ae;replace c2:=zh c2;replace ab:=zh ab;replace hn:=zh hn;go_wp2;refine sh4 ps A (some ⟨b,off,none⟩) c cw sb ob mb ci si who.length co s P _ wz aj.o aa.o ab.o ag al ap ad.o ae.o hP ⟨by omega,by omega⟩ h1 h2 h3 ?_;intro u24 u25 u26 u27 u28 u29 u30 u31 u32 u33 u34 u35 u36 u37 u38 u39 u40 W ak an;have hN:Hid (LkM W mb ps (D++BTq (who.take (k+1)) co P who.length)):=by rw[hA.o,<-xT];exact ak
    have ao:Hid (w.grownBy W (some mb)):=hg.o.trans an.o;go_wp2;exact⟨⟨k+1,by omega,by go_num,ao,hN⟩,by simp only[intOf];omega⟩
   have hN:Hid (LkM wz mb ps (D++BTq (who.take (k+1)) co P who.length)):=by
    have:∀l,BTq l co P who.length=[]:=fun l=>by unfold BTq;rw[List.filter_eq_nil_iff.2 (fun x _=>by rw[zH c1];simp)];rfl
    rw[this]at aa ⊢;exact aa
   have m1:decide (0<P)=false:=zH c1;have m1':P<=0:=by omega
   replace d:=zh d;go_wp2;exact⟨⟨k+1,by omega,by go_num,hg,hN⟩,by simp only[intOf];omega⟩
  obtain rfl:k=who.length:=by omega
  rw[zn]at aa;go_wp2;go_end0;exact⟨rfl,aa,hg⟩
end Rg
end
section
open Go.RowKit Go.Shelf Go.Sort
namespace Rg
open Nt Ci
theorem Wx(b:Nat)(x y:Int)(w:World)(h0:w.cell? ⟨b,0,none⟩=some (.int .i64 x))(h1:w.cell? ⟨b,1,none⟩=some (.int .i64 y))(_hb:b<w.heap.size):
 Calls prog 69 #[.slice (some ⟨b,0,none⟩) 2 2] w fun e w'=>e=.returned (.int .i64 (if x=0 then y else x))/\w'=w:=by
 obtain⟨R,hR⟩:∃R,R=(if x=0 then y else x):=⟨_,rfl⟩;rw[<-hR];replace hR:=zh hR;go_enter func69,ntmps69;go_wp2
 go_loop [8] (fun i=>∃k:Nat,k<=2/\i=.int .i64 k/\Hid (0<k->x=0)/\Hid (1<k->y=0)) (fun i=>2-(intOf i).toNat)
 case atStart=>exact⟨0,zQ _,rfl,fun h=>absurd h (xV _),fun h=>absurd h (by omega)⟩
 case round=>
  obtain⟨k,hk,rfl,h2,h3⟩:=hrel
  match k,hk with
  |0,_=>
   by_cases c:x=0
   .have hx:Hid (0<1->x=0):=fun _=>c;have hy:Hid (1<1->y=0):=fun h=>absurd h (xV _);have m1:(x != 0)=false:=bne_eq_false_iff_eq.2 c;replace c:=zh c;go_wp2;exact⟨⟨1,by omega,rfl,hx,hy⟩,by simp[intOf]⟩
   have hQ:Hid (R=x):=hR.o.trans (zC c);have m1:(x != 0)=true:=bne_iff_ne.2 c;replace c:=zh c;go_wp2;go_ret;exact⟨by rw[hQ.o];rfl,rfl⟩
  |1,_=>
   have d:=h2.o (by omega)
   by_cases c:y=0
   .have hx:Hid (0<2->x=0):=fun _=>d;have hy:Hid (1<2->y=0):=fun _=>c;have m1:(y != 0)=false:=bne_eq_false_iff_eq.2 c;replace c:=zh c;replace d:=zh d;go_wp2;exact⟨⟨2,by omega,rfl,hx,hy⟩,by simp[intOf]⟩
   have hQ:Hid (R=y):=hR.o.trans (zD d);have m1:(y != 0)=true:=bne_iff_ne.2 c;replace c:=zh c;replace d:=zh d;go_wp2;go_ret;exact⟨by rw[hQ.o];rfl,rfl⟩
  |2,_=>
   have hQ:Hid (R=0):=by rw[hR.o,zD (h2.o (by omega))];exact h3.o (by omega)
   go_wp2;go_ret;exact⟨by rw[hQ.o];rfl,rfl⟩
def KH(x y:Int×Int):Int:=if Lib.compareInt x.1 y.1=0 then Lib.compareInt x.2 y.2 else Lib.compareInt x.1 y.1
theorem Qm{w W:World}(h:∃q os,W=grow (w.drewN q) os):∃q os,W.drew=grow (w.drewN q) os:=by
 obtain⟨q,os,rfl⟩:=h;exact⟨q+1,os,rfl⟩
theorem KI{w W:World}(h:∃q os,W=grow (w.drewN q) os)(o:Obj):∃q os,W.alloc o=grow (w.drewN q) os:=by
 obtain⟨q,os,rfl⟩:=h;exact⟨q,os++#[o],by rw[alloc_eq_grow,grow_grow]⟩
def Wy(k:Nat):Code->Bool
 |.region j _ _=>j==k
 |_=>false
noncomputable def cmR(j:Nat):Code:=((Tryz.f68.body.map Ci.Bo).bind fun l=>l.find? (Wy j)).getD .skip
theorem cm1{c0 c1 a4 a5 a6 a7 a8 a9 al am an ao ap aq ar:Value}{Q:Exit->Act->World->Prop}(xb yb:Nat)(a0 a1 b0 b1:Int)(w w0:World)(hx:Bk w xb 69 [.int .i64 a0,.int .i64 a1])(hy:Bk w yb 69 [.int .i64 b0,.int .i64 b1])(hg:∃q os,w=grow (w0.drewN q) os)
 (h:∀(u5 u6 u7 u8 u9 u10 u11 u12 u13 u14 u15 u16:Value)(W:World)(_:∃q os,W=grow (w0.drewN q) os),Q .normal ⟨#[c0,c1,.pointer (some ⟨xb,0,none⟩),.pointer (some ⟨yb,0,none⟩),.int .i64 (KH (a0,a1) (b0,b1)),u5,u6,u7,u8,u9,u10,u11,u12,u13,u14,u15,u16],[]⟩ W):
 Code.wp prog (cmR 1) Q ⟨#[c0,c1,.pointer (some ⟨xb,0,none⟩),.pointer (some ⟨yb,0,none⟩),a4,a5,a6,a7,a8,a9,al,am,an,ao,ap,aq,ar],[]⟩ w:=by
 conv=>arg 2;whnf
 conv=>arg 4;zeta
 replace h:=zh h;have kc:Hid (∀x y W,Calls prog 70 #[.int .i64 x,.int .i64 y] W fun e w'=>e=.returned (.int .i64 (Lib.compareInt x y))/\w'=W):=fun x y W=>Tryz.cmp_Compare_int x y W;have ad:Hid (Bk w.drew xb 69 [.int .i64 a0,.int .i64 a1]):=hx;have ae:Hid (Bk w.drew yb 69 [.int .i64 b0,.int .i64 b1]):=hy;have ak:Hid (∃q os,w.drew=grow (w0.drewN q) os):=Qm hg;have ab:Hid (∀W,Bk W xb 69 [.int .i64 a0,.int .i64 a1]->Bk W yb 69 [.int .i64 b0,.int .i64 b1]->W.cell? ⟨xb,0,none⟩=some (.int .i64 a0)/\W.cell? ⟨xb,1,none⟩=some (.int .i64 a1)/\W.cell? ⟨yb,0,none⟩=some (.int .i64 b0)/\W.cell? ⟨yb,1,none⟩=some (.int .i64 b1)):=fun W h k=>⟨h.c0,h.c1,k.c0,k.c1⟩;obtain⟨R,hR⟩:∃R,R=KH (a0,a1) (b0,b1):=⟨_,rfl⟩;rw[<-hR]at h;replace hR:=zh hR;replace hx:=zh hx;replace hy:=zh hy;replace hg:=zh hg;refine yx ?_;refine yq (S:=fun W=>W.cell? ⟨xb,0,none⟩=some (.int .i64 a0)/\W.cell? ⟨xb,1,none⟩=some (.int .i64 a1)/\W.cell? ⟨yb,0,none⟩=some (.int .i64 b0)/\W.cell? ⟨yb,1,none⟩=some (.int .i64 b1)) (by kernel_rfl) (ab.o _ ad.o ae.o) (fun aa=>?_);replace aa:=zh aa;refine tkgK (v:=?_) 0 rfl (aa.o) (Or.inl ⟨by rfl,?_⟩) ?_;rotate_left
 . (intro w d;obtain⟨q1,q2,q3,q4⟩:=d;go_simp<;>with_reducible rfl)
 try simp only[Act.put,zA]
 refine tkgK (v:=?_) 1 rfl (aa.o) (Or.inl ⟨by rfl,?_⟩) ?_;rotate_left
 . (intro w d;obtain⟨q1,q2,q3,q4⟩:=d;go_simp<;>with_reducible rfl)
 try simp only[Act.put]
 refine tkgK (v:=?_) 2 rfl (aa.o) (Or.inl ⟨by rfl,?_⟩) ?_;rotate_left
 . (intro w d;obtain⟨q1,q2,q3,q4⟩:=d;go_simp<;>with_reducible rfl)
 try simp only[Act.put]
 refine tkgK (v:=?_) 3 rfl (aa.o) (Or.inl ⟨by rfl,?_⟩) ?_;rotate_left
 . (intro w d;obtain⟨q1,q2,q3,q4⟩:=d;go_simp<;>with_reducible rfl)
 try simp only[Act.put]
 refine tkgK (v:=?_) 5 rfl (aa.o) (Or.inl ⟨by rfl,?_⟩) ?_;rotate_left
 . (intro w d;obtain⟨q1,q2,q3,q4⟩:=d;go_simp<;>with_reducible rfl)
 try simp only[Act.put]
 refine tkgK (v:=?_) 6 rfl (aa.o) (Or.inl ⟨by rfl,?_⟩) ?_;rotate_left
 . (intro w d;obtain⟨q1,q2,q3,q4⟩:=d;go_simp<;>with_reducible rfl)
 try simp only[Act.put]
 refine tkgK (v:=?_) 7 rfl (aa.o) (Or.inl ⟨by rfl,?_⟩) ?_;rotate_left
 . (intro w d;obtain⟨q1,q2,q3,q4⟩:=d;go_simp<;>with_reducible rfl)
 try simp only[Act.put]
 refine tkgK (v:=?_) 8 rfl (aa.o) (Or.inl ⟨by rfl,?_⟩) ?_;rotate_left
 . (intro w d;obtain⟨q1,q2,q3,q4⟩:=d;go_simp<;>with_reducible rfl)
 try simp only[Act.put]
 generalize w.drew=wd at ad ae ak ⊢;obtain⟨d0,ag⟩:∃x,x=Lib.compareInt a0 b0:=⟨_,rfl⟩;obtain⟨d1,ah⟩:∃x,x=Lib.compareInt a1 b1:=⟨_,rfl⟩;replace ag:=zh ag;replace ah:=zh ah;refine zU (rs:=[4]) (by kernel_rfl) (by simp) ?_;refine zK (o:=_) rfl (fun K hK=>?_) ?_
 .go_simp;refine(kc.o _ _ _).q fun W2 hW=>?_;obtain rfl:=hW.symm;rw[<-ag.o];refine hK.o _ _ (ab.o _ ad.o ae.o) (fun _=>?_);clear hK K
  try simp only[Act.put,zA,zF,zE]
  refine zU (rs:=[9]) (by kernel_rfl) (by simp) ?_;refine zK (o:=_) rfl (fun K hK=>?_) ?_
  .go_simp;refine(kc.o _ _ _).q fun W2 hW=>?_;obtain rfl:=hW.symm;rw[<-ah.o];refine hK.o _ _ (ab.o _ ad.o ae.o) (fun _=>?_);clear hK K
   try simp only[Act.put,zA,zF,zE]
   have ai:Hid (Bk (wd.alloc (.cells #[.int .i64 d0,.int .i64 d1] 3)) xb 69 [.int .i64 a0,.int .i64 a1]):=ad.o.alloc _;have aj:Hid (Bk (wd.alloc (.cells #[.int .i64 d0,.int .i64 d1] 3)) yb 69 [.int .i64 b0,.int .i64 b1]):=ae.o.alloc _;have av:Hid (∃q os,wd.alloc (.cells #[.int .i64 d0,.int .i64 d1] 3)=grow (w0.drewN q) os):=KI ak.o _;have af:Bk (wd.alloc (.cells #[.int .i64 d0,.int .i64 d1] 3)) wd.heap.size 3 [.int .i64 d0,.int .i64 d1]:=Bk.new _ _ _;have ko:=zh (Wx wd.heap.size d0 d1 _ (af.c0) (af.c1) af.lt);clear af;have au:Hid ((if d0=0 then d1 else d0)=R):=by rw[ag.o,ah.o];exact hR.o.symm
   rw[au.o]at ko;refine zU (rs:=[10]) (by kernel_rfl) (by simp) ?_;refine zK (o:=_) rfl (fun K hK=>?_) ?_
   .go_simp;refine hK.o _ _ (ab.o _ ai.o aj.o) (fun _=>?_);clear hK K
    try simp only[Act.put,zA,zF,zE]
    refine zU (rs:=[11]) (by kernel_rfl) (by simp) ?_;refine zK (o:=_) rfl (fun K hK=>?_) ?_
    .go_simp;refine ko.o.q fun W2 hW=>?_;obtain rfl:=hW.symm;refine hK.o _ _ (ab.o _ ai.o aj.o) (fun _=>?_);clear hK K
     try simp only[Act.put,zA,zF,zE]
     refine tkgK (v:=?_) 12 rfl (ab.o _ ai.o aj.o) (Or.inl ⟨by rfl,?_⟩) ?_;rotate_left
     . (intro w d;obtain⟨q1,q2,q3,q4⟩:=d;go_simp<;>with_reducible rfl)
     try simp only[Act.put,zA]
     refine yz (by kernel_rfl) ?_ _;refine yX ?_;exact h.o _ _ _ _ _ _ _ _ _ _ _ _ _ av.o
    exact zR
   exact zR
  exact zR
 exact zR
theorem Tq(x y:Int×Int)(w:World):Calls prog 68 #[.agg #[.int .i64 x.1,.int .i64 x.2],.agg #[.int .i64 y.1,.int .i64 y.2]] w fun e w'=>e=.returned (.int .i64 (KH x y))/\∃q os,w'=grow (w.drewN q) os:=by
 obtain⟨a0,a1⟩:=x;obtain⟨b0,b1⟩:=y;have hx:Hid (Bk ((w.alloc (.cells #[.int .i64 a0,.int .i64 a1] 69)).alloc (.cells #[.int .i64 b0,.int .i64 b1] 69)) w.heap.size 69 [.int .i64 a0,.int .i64 a1]):=(Bk.new w _ _).alloc _;have d:Bk ((w.alloc (.cells #[.int .i64 a0,.int .i64 a1] 69)).alloc (.cells #[.int .i64 b0,.int .i64 b1] 69)) (w.heap.size+1) 69 [.int .i64 b0,.int .i64 b1]:=by have h:=Bk.new (w.alloc (.cells #[.int .i64 a0,.int .i64 a1] 69)) 69 [.int .i64 b0,.int .i64 b1];simpa using h
 have hy:=zh d;have hg:Hid (∃q os,(w.alloc (.cells #[.int .i64 a0,.int .i64 a1] 69)).alloc (.cells #[.int .i64 b0,.int .i64 b1] 69)=grow (w.drewN q) os):=KI (KI ⟨0,#[],(grow_empty _).symm⟩ _) _;clear d;go_enter func68,ntmps68;go_wp2;refine cm1 w.heap.size (w.heap.size+1) a0 a1 b0 b1 _ w hx.o hy.o hg.o ?_;intro u5 u6 u7 u8 u9 u10 u11 u12 u13 u14 u15 u16 W hW;go_wp2;go_ret;exact⟨rfl,hW⟩
def BX(x:Int×Int):List Value:=[.int .i64 x.1,.int .i64 x.2]
def KLt(x y:Int×Int):Prop:=x.1<y.1\/(x.1=y.1/\x.2<y.2)
instance (x y:Int×Int):Decidable (KLt x y):=inferInstanceAs (Decidable (_\/_))
theorem ltK(x y:Int×Int):ltOf KH x y=decide (KLt x y):=by
 unfold ltOf KH KLt Lib.compareInt
 by_cases h1:x.1<y.1
 .simp[h1]
 by_cases h2:y.1<x.1
 .have:¬x.1=y.1:=by omega
  simp[h1,h2,this]
 have h3:x.1=y.1:=by omega
 by_cases h4:x.2<y.2
 .simp[h3,h4]
 by_cases h5:y.2<x.2<;>simp[h3,h4,h5]
theorem XQ:SWO (ltOf KH) where
 irrefl x:=by rw[ltK];exact zH (by unfold KLt;omega)
 trans x y z h1 h2:=by
  rw[ltK]at *;have h1:=zL h1;have h2:=zL h2;refine zG ?_;unfold KLt at *;omega
 ntrans x y z h1 h2:=by
  rw[ltK]at *;have h1:=zu h1;have h2:=zu h2;refine zH ?_;unfold KLt at *;omega
theorem Tr(blk off cap:Nat)(d:Array (Int×Int))(w:World)(hH:HoldsK BX 2 w blk off d)(h:blk<w.heap.size)(aa:d.size<4611686018427387904):
 Calls prog 114 #[.slice (some ⟨blk,off,none⟩) d.size cap,.func (.func 68) #[] #[]] w fun e w' =>
  e=.returned (.tuple #[])/\∃d' n os,PermIn 0 d.size d d'/\SortedIn (ltOf KH) 0 d.size d'/\w'=sortWorldK BX 2 w blk off n d' os :=
 AnyQ.slices_SortFunc Tryz.sortK 2 Tryz.isAgg69 Tryz.sizeOf69 BX (fun _=>rfl) (fun x v hv=>by simp[BX]at hv;rcases hv with rfl|rfl<;>rfl) KH XQ 68 #[] blk off cap d w
  (enters_of func68 (by kernel_rfl) rfl) (fun _ _ _ _ x y=>Tq x y _) hH h aa
end Rg
end
section
open Go.RowKit Go.Shelf Go.Sort Go.Maps
namespace Rg
open Nt Ci
theorem KJ{P:Program}{m:Nat}{t ti:TypeId}{f1 f2:Field}(hu:P.underlying t=some (.struct #[f1, f2]))(hc:P.cellsOf t=2)(n1:f1.name≠"_")(n2:f2.name≠"_")(o1:f1.offset=0)(o2:f2.offset=1)(t1:f1.type=ti)(t2:f2.type=ti)
 (ui:P.underlying ti=some (.int .i64))(ci:P.cellsOf ti=1)(hm:P.types.size+1=m+2){v:Value}{kl:Lit}(h:keyOf P t v=some kl):
 ∃a b:Int,v=.agg #[.int .i64 a,.int .i64 b]/\(Lit.int .i64 a).wf=true/\(Lit.int .i64 b).wf=true:=by
 unfold keyOf at h;rw[hu]at h;simp only[hm]at h
 split at h
 .rename_i hk;rw[zq]at hk;obtain⟨_,hf⟩:=hk
  cases v<;>simp[Value.formed,hu,hc]at hf
  rename_i cs;obtain⟨l⟩:=cs
  match l,hf with
  | [a,b],_=>
    subst t1;simp[Program.keyLits,hu,hc,n1,n2,o1,o2,ui,ci,t2,Value.cells]at h
    cases a<;>simp at h
    rename_i q _
    split at h
    rotate_left
    .simp at h
    rename_i hq;obtain⟨rfl,d⟩:=hq
    cases b<;>simp at h
    rename_i q2 _
    split at h
    rotate_left
    .simp at h
    rename_i hq2;obtain⟨rfl,aa⟩:=hq2;exact⟨q,q2,rfl,d,aa⟩
 cases h
theorem Hp{a:Int}(h:(Lit.int .i64 a).wf=true):Hi a:=by
 have h1:IntKind.i64.min<=a/\a<=IntKind.i64.max:=by simpa [Lit.wf] using h
 exact h1
theorem LR{v:Value}{kl:Lit}(h:keyOf prog 69 v=some kl):∃x:Kk,v=.agg #[.int .i64 x.1.1,.int .i64 x.1.2]/\kl=κk x:=by
 obtain⟨m,hm⟩:=Vz;obtain⟨a,b,rfl,ha,hb⟩:=KJ underlying69 NC (by decide) (by decide) rfl rfl rfl rfl underlying3 O3 hm h;refine⟨⟨(a,b),Hp ha,Hp hb⟩,rfl,?_⟩;have:=LQ ⟨(a,b),Hp ha,Hp hb⟩;rw[show keyOf _ _ _=_ from h]at this;exact Option.some.inj this
def IT(x:Kk):Value:=.agg #[.int .i64 x.1.1,.int .i64 x.1.2]
theorem Ts{x y:Kk}(h:IT x=IT y):x=y:=by
 unfold IT at h;simp only[Value.agg.injEq,Array.mk.injEq,List.cons.injEq,Value.int.injEq,true_and,and_true]at h;exact Subtype.ext (Prod.ext h.1 h.2)
theorem O4(x y:Kk):(κk x).sameKey (κk y)=decide (x=y):=by
 rw[xX,yU];constructor
 .intro h;refine To x y ?_;unfold κk at *
  simpa [Lit.sameKey] using h
 rintro rfl;unfold κk;simp[Lit.sameKey]
def CollK(D0:DataW Value)(left:Lit->Bool)(ss:List Kk):Prop:=ss.Nodup/\∀x:Kk,x∈ss<->(has D0 (κk x)=true/\left (κk x)=false)
theorem CollK.start(D0:DataW Value):CollK D0 (has D0) []:=⟨vP,fun x=>⟨fun h=>absurd h yK,fun h=>by rw[h.1]at h;cases h.2⟩⟩
theorem CollK.step{D0:DataW Value}{left:Lit->Bool}{ss:List Kk}(h:CollK D0 left ss){x:Kk}{y:DataW Value}(hl:left (κk x)=true)(d:∀z,D0.atKey (κk x) z=y):CollK D0 (fun z=>left z&&!z.sameKey (κk x)) (ss++[x]):=by
 have hh:has D0 (κk x)=true:=has_true_of_atKey d;refine⟨List.nodup_append.2 ⟨h.1,by simp,fun a ha b hb c=>?_⟩,fun z=>?_⟩
 .rw[List.mem_singleton.1 hb]at c;subst c;have:=((h.2 a).1 ha).2;rw[hl]at this;cases this
 rw[yQ,ym,h.2 z]
 by_cases e:z=x
 .subst e;exact⟨fun _=>⟨hh,by show (left (κk z)&&!(κk z).sameKey (κk z))=false;rw[O4,zG rfl];simp⟩,fun _=>.inr rfl⟩
 show _<->has D0 (κk z)=true/\(left (κk z)&&!(κk z).sameKey (κk x))=false
 rw[O4,zH e];simp[e]
theorem Tt(n:Nat)(hn:1<=n)(l Bm b nn:Nat)(D0:DataW Value){R:Value->Option (DataW Value×List MemPlace)}(J:List Kk->World->Prop)
 (hY:∀pre x W,J pre W->pre.length<Maps.size D0->YieldAt Fence.wide (n-1) prog l #[IT x] W fun e W'=>e=.returned (.bool true)/\J (pre++[x]) W'/\KeepsWalks W W')
 (W:World)(hJ:AbidesFrom W.heap.size J)(hm:W.cell? ⟨Bm,0,none⟩=some (.map (some b)))(ad:W.ownsMap prog 69 R b nn D0)(h0:J [] W):
 CallsIn Fence.wide n prog 115 #[.func (.yield l) #[] #[],.pointer (some ⟨Bm,0,none⟩)] W fun e W'=>(∃v,e=.returned v)/\∃ss:List Kk,(ss.Nodup/\∀x,x∈ss<->has D0 (κk x)=true)/\ss.length<=Maps.size D0/\J ss W':=by
 refine vV func115 rfl trivial ?_ rfl;simp only[ntmps115,xJ,zZ,ye,Nat.reduceAdd,Nat.reduceSub,xB,xC,xS,xG,yT,yi]
 gi_wp2_with (first
  |(gi_at_range;refine wpListIn_range_own _ rfl _ 64 rfl 69 3 FI underlying64 _ b nn _ rfl ad ?_;intro w0 ae am ax)
  |gi_in)
 go_frame
 gi_loopw [6] (fun _ wr=>∃(left:Lit->Bool)(cnt:Nat)(ss:List Kk),wr.ranges prog 69 R b W.heap.size nn D0 left cnt/\ss.length+cnt<=Maps.size D0/\CollK D0 left ss/\J ss wr)
  (fun _ wr=>wr.rangeLeft b W.heap.size)
 case atStart=>exact⟨_,_,[],ae,by simp,CollK.start D0,hJ [] W w0 none h0 am (fun r e=>by cases e)⟩
 case round=>
  obtain⟨left,cnt,ss,h,aw,hC,aa⟩:=hrel
  gi_wp2_with (first
   |(gi_at_next;refine wpListIn_next_ranges _ rfl _ rfl 69 FI R IT id (fun key kl hk=>by obtain⟨x,hx,_⟩:=LR hk;exact⟨x,hx⟩) (fun v _ _=>⟨v,rfl⟩) b W.heap.size nn _ _ _ rfl h ?_ ?_)
   |gi_in)
  .intro av ap
   gi_wp2
   go_end0;exact⟨⟨_,rfl⟩,ss,⟨hC.1,fun x=>by rw[hC.2 x,ap];simp⟩,by omega,aa⟩
  intro x c kl yd yp w2 cnt2 ab aq hv ak af ar an au al;obtain⟨x',ex,rfl⟩:=LR ab;obtain rfl:x=x':=Ts ex;have ah:J ss w2:=hJ ss wr w2 (some W.heap.size) aa an (fun r e=>by cases e;exact⟨zB _,h.iter_walk⟩);clear au;have ai:J ss (w2.alloc (.cells #[.int .i64 x.1.1,.int .i64 x.1.2] 69)):=hJ ss w2 _ none ah (World.grownBy_alloc _ _ _) (fun r e=>by cases e);have ag:=af.alloc (.cells #[.int .i64 x.1.1,.int .i64 x.1.2] 69);obtain⟨fn,tmps,assign,body,hy,hR⟩:=hY ss x _ ai (by omega);unfold IT at al hy ⊢
  gi_wp2
  refine hR.mono ?_;intro e W3 h9;obtain⟨rfl,aj,ao⟩:=h9
  gi_wp2
  have d:=ag.of_walks ao
  go_roundw
  case rel=>exact⟨_,cnt2,ss++[x],d,by simp;omega,hC.step aq ak,aj⟩
  case measure=>rw[d.left_eq,h.left_eq];exact ar
theorem Qn(mb:Option Nat)(w:World):Calls prog 67 #[.map mb] w fun e w' =>
 e=.returned (.func (.func 115) #[] #[.pointer (some ⟨w.heap.size,0,none⟩)])/\w'=w.alloc (.cells #[.map mb] 64):=by
 go_enter func67,ntmps67;go_wp2;go_ret;exact⟨rfl,rfl⟩
end Rg
end
section
open Go.RowKit Go.Shelf Go.Sort
namespace Rg
open Nt Ci
def Fo(ps:List ByteArray)(D:List Ct)(x:Int×Int):Lk:=(x.1,x.2,rqR (ofQ (tot D (nm ps x.1,nm ps x.2)) 6000))
theorem Tu{ps:List ByteArray}{D:List Ct}{ks:List (Int×Int)}(hp:ps.length<=1000000)(h1:ks.Pairwise KLt)(h2:∀x,x∈ks->Hi x.1/\Hi x.2)(h3:∀x:Kk,x.1∈ks<->KF ps D x.1):IsLinks ps D (ks.map (Fo ps D)):=by
 refine⟨List.pairwise_map.2 (h1.imp fun h=>h),fun y hy=>?_,fun i j hi hj hv=>?_⟩
 .obtain⟨x,hx,rfl⟩:=List.mem_map.1 hy;obtain⟨a,b,c,d,v⟩:=(h3 ⟨x,h2 x hx⟩).1 hx;obtain⟨x1,x2⟩:=x;simp only at a b c d v;obtain⟨i,rfl⟩:∃i:Nat,x1=i:=⟨x1.toNat,by omega⟩;obtain⟨j,rfl⟩:∃j:Nat,x2=j:=⟨x2.toNat,by omega⟩;rw[wL]at c d;rw[EQ c,EQ d]at v;refine⟨i,j,c,d,rfl,rfl,v,?_⟩;unfold Fo lkP;simp only;rw[EQ c,EQ d]
 have hk:KF ps D ((i:Int),(j:Int)):=⟨by omega,by omega,by simpa using hi,by simpa using hj,by rw[EQ hi,EQ hj];exact hv⟩;have aa:Hi (i:Int)/\Hi (j:Int):=by unfold Hi;omega
 exact⟨_,vC ((h3 ⟨((i:Int),(j:Int)),aa⟩).2 hk),rfl,rfl⟩
theorem KK{d d':Array (Int×Int)}(hp:PermIn 0 d.size d d')(hs:SortedIn (ltOf KH) 0 d.size d')(nd:d.toList.Nodup):d'.toList.Pairwise KLt/\d'.toList.Perm d.toList:=by
 obtain⟨h1,_,h2⟩:=hp;have e1:d.extract 0 d.size=d:=by simp
 have e2:d'.extract 0 d.size=d':=by rw[<-h1];simp
 rw[e1,e2]at h2;refine⟨List.pairwise_iff_getElem.2 fun i j hi hj ab=>?_,h2⟩;have aa:i<d'.size:=by simpa using hi
 have ad:j<d'.size:=by simpa using hj
 have h:=hs i j (zQ _) ab (by omega);rw[getElem!_pos d' i aa,getElem!_pos d' j ad,ltK]at h;have h:=zu h
 have ne:d'.toList[i]≠d'.toList[j]:=fun e=>by
  have:=(List.getElem_inj (h2.nodup_iff.2 nd)).1 e;omega
 rw[Array.getElem_toList,Array.getElem_toList]at ne ⊢;have nc:¬(d'[i].1=d'[j].1/\d'[i].2=d'[j].2):=fun c=>ne (Prod.ext c.1 c.2);unfold KLt at *;omega
theorem LS:∀(l:List (Int×Int)) (t:Nat) (h:t<l.length),(l.flatMap BX)[t*2]? = some (.int .i64 l[t].1)/\(l.flatMap BX)[t*2+1]? = some (.int .i64 l[t].2)
 | [],_,h=>absurd h (yB _)
 |x::l,0,_=>by simp[BX]
 |x::l,t+1,h=>by
  have:=LS l t (by simpa using h);rw[show (t+1)*2=t*2+1+1 from by omega]
  simpa [BX] using this
theorem Qo{w:World}{base g cap:Nat}{e:TypeId}{l:List (Int×Int)}(h:w.ownsRow base e 2 (.slice (some ⟨g,0,none⟩) l.length cap) l.length (l.flatMap BX)):HoldsK BX 2 w g 0 l.toArray:=by
 intro j hj;rw[size_flatK]at hj;have hj:j<l.length*2:=by simpa using hj
 have hd:j/2<l.length:=by omega
 have e:(flatK BX 2 l.toArray)[j]! = (BX l[j/2])[j%2]!:=by
  rw[get_flatK _ _ _ _ (by simpa using hj),getElem!_pos l.toArray (j/2) (by simpa using hd)];rfl
 rw[yE,h.cellAt j hj,h.frozenAt j,e];refine⟨?_,rfl⟩;have hf:=LS l (j/2) hd
 rcases Nat.mod_two_eq_zero_or_one j with m|m
 .have q:(l.flatMap BX)[j]? = (l.flatMap BX)[j/2*2]?:=by congr 1;omega
  rw[m,q,hf.1];rfl
 have q:(l.flatMap BX)[j]? = (l.flatMap BX)[j/2*2+1]?:=by congr 1;omega
 rw[m,q,hf.2];rfl
def Xx(w:World)(A:Option Addr)(ks:List (Int×Int)):Prop:=0<ks.length->∃b off,A=some ⟨b,off,none⟩/\b<w.heap.size/\∀j (h:j<ks.length),w.cell? ⟨b,off+j*2,none⟩=some (.int .i64 ks[j].1)/\w.cell? ⟨b,off+j*2+1,none⟩=some (.int .i64 ks[j].2)
theorem UU{w:World}{g:Nat}{d:Array (Int×Int)}(h:HoldsK BX 2 w g 0 d)(hb:g<w.heap.size):Xx w (some ⟨g,0,none⟩) d.toList:=fun _=>⟨g,0,rfl,hb,fun j hj=>by
 have aa:j<d.size:=by simpa using hj
 have a:=(h.cell (i:=j) (c:=0) aa (by decide)).1;have b:=(h.cell (i:=j) (c:=1) aa (by decide)).1;rw[getElem!_pos d j aa]at a b;exact⟨a,b⟩⟩
end Rg
end
section
open Go.RowKit Go.Shelf Go.Sort Go.Maps
namespace Rg
open Nt Ci
def apA:Code := .region 2 #[{ dst := some 5, op := .alloc 69, type := 0, pos := "iter.go:51", after := #[], guard := none }, { dst := none, op := .store 69 (.tmp 5) (.tmp 7), type := 0, pos := "iter.go:51", after := #[{ on := 0, ground := .data }, { on := 0, ground := .phase }], guard := none }] false
def apB:Code := .block 1 (.region 3 #[{ dst := some 8, op := .load 124 (.tmp 2), type := 124, pos := "iter.go:52", after := #[], guard := none }, { dst := some 9, op := .load 69 (.tmp 5), type := 69, pos := "iter.go:52", after := #[], guard := none }, { dst := some 10, op := .buildSlice 124 1 #[(0, .tmp 9)], type := 124, pos := "iter.go:52", after := #[{ on := 1, ground := .data }], guard := none }, { dst := some 11, op := .call { callee := .builtin .append, args := #[.tmp 8, .tmp 10], argTypes := #[124, 124] }, type := 124, pos := "iter.go:52", after := #[{ on := 0, ground := .data }, { on := 2, ground := .data }], guard := none }, { dst := none, op := .store 124 (.tmp 2) (.tmp 11), type := 0, pos := "iter.go:52", after := #[{ on := 3, ground := .data }, { on := 3, ground := .chain }, { on := 0, ground := .phase }, { on := 1, ground := .phase }, { on := 2, ground := .phase }, { on := 3, ground := .phase }], guard := none }] false)
def apL(fn:FuncId)(sv:Value)(B D:Nat)(st:LoopState):Loop :=
 { state:=st,pending:=none,fn:=fn,tmps:=#[.slice none 0 0,sv,.pointer (some ⟨B,0,none⟩),undef,.slice none 0 0,undef,sv,undef,undef,undef,undef,undef,undef],params:=#[7],assign:=apA,body:=apB,defers:=D }
def kl(ss:List Kk):List (Int×Int):=ss.map fun x:Kk=>(x.1:Int×Int)
structure ApK(w0:World)(Lo:Loop)(B l D:Nat)(ss:List Kk)(W:World):Prop where
 box:∃v,W.heap[B]? = some (.cells #[v] 124 (0,0))/\W.ownsRow w0.heap.size 69 2 v ss.length ((kl ss).flatMap BX)
 lo:W.heap[l]? = some (.loop Lo)
 df:W.heap[D]? = some (.deferred (some []))
 low:Below w0.heap.size w0 W
theorem ApK.abides(w0:World)(Lo:Loop)(B l D S:Nat)(hS:w0.heap.size<=S):AbidesFrom S (ApK w0 Lo B l D):=fun s W W' row h hg d=>by
 have hr:∀r,row=some r->∃o:Obj,W.heap[r]? = some o/\o.isWalk=true:=fun r e=>(d r e).2;obtain⟨v,hv,ho⟩:=h.box;exact⟨⟨v,(grownBy_keeps hg hr hv rfl).trans hv,ownsRow_abides_a ho hg hr⟩,(grownBy_keeps hg hr h.lo rfl).trans h.lo,(grownBy_keeps hg hr h.df rfl).trans h.df,h.low.grown hg h.low.size fun k e=>zS hS (d k e).1⟩
theorem UV(ss:List Kk)(x:Kk):(kl (ss++[x])).flatMap BX=(kl ss).flatMap BX++BX x.1:=by
 unfold kl;rw[zw,List.flatMap_append]
 show _++(BX x.1++[])=_
 rw[xN]
theorem Xy:(prog.info? 69).map (fun i=>(i.zero,i.size,i.bytes))=some (some (.agg #[.int .i64 0,.int .i64 0]),2,16):=by kernel_rfl
theorem I7{W:World}{base:Nat}{e:TypeId}{v:Value}{k:Nat}{xs:List Value}(h:W.ownsRow base e 2 v k xs):∃A c,v=.slice A k c:=by
 rcases h.2 with⟨rfl,rfl⟩|⟨g,cap,cur,rfl,_⟩
 .exact⟨none,0,rfl⟩
 exact⟨_,cap,rfl⟩
theorem O5:(124:TypeId)≠69:=by decide
theorem ApK.put{w0:World}{Lo:Loop}{B l D:Nat}{ss:List Kk}{W:World}(h:ApK w0 Lo B l D ss W)(h1:B≠l)(h2:D≠l)(h5:w0.heap.size<=l)(L2:Loop):ApK w0 L2 B l D ss (W.putObj l (.loop L2))/\KeepsWalks W (W.putObj l (.loop L2)):=by
 obtain⟨v,hv,ho⟩:=h.box;have hg:=grownBy_putObj_a W l (.loop L2);exact⟨⟨⟨v,(yc h1).trans hv,ho.kept hg (ownsRow_ne_a ho h.lo fun cur e=>by cases e)⟩,World.putObj_heap_same (Array.getElem?_eq_some_iff.1 h.lo).1,(yc h2).trans h.df,h.low.grown hg h.low.size fun k e=>by cases e;exact h5⟩,KeepsWalks.putObj _ h.lo rfl⟩
theorem ApK.alloc{w0:World}{Lo:Loop}{B l D:Nat}{ss:List Kk}{W:World}(h:ApK w0 Lo B l D ss W)(o:Obj):ApK w0 Lo B l D ss (W.alloc o):=by
 obtain⟨v,hv,ho⟩:=h.box;have old:∀{k:Nat} {q:Obj},W.heap[k]? = some q->(W.alloc o).heap[k]? = some q:=fun hk=>(yM W o _ (Array.getElem?_eq_some_iff.1 hk).1).trans hk;exact⟨⟨v,old hv,ho.alloc o⟩,old h.lo,old h.df,h.low.alloc h.low.size o⟩
theorem ApK.step{w0:World}{Lo:Loop}{B l D:Nat}{ss ts:List Kk}{W W1:World}(h:ApK w0 Lo B l D ss W)(hb:B≠l)(hd:D≠B)(h4:w0.heap.size<=B){v v':Value}(hv:W.heap[B]? = some (.cells #[v] 124 (0,0)))
 (ho:W.ownsRow w0.heap.size 69 2 v ss.length ((kl ss).flatMap BX))(hg:W.grownBy W1 v.ownBlock)(ae:W1.ownsRow w0.heap.size 69 2 v' ts.length ((kl ts).flatMap BX)):
 W1.heap[B]? = some (.cells #[v] 124 (0,0))/\ApK w0 Lo B l D ts (W1.setCell ⟨B,0,none⟩ v')/\KeepsWalks W (W1.setCell ⟨B,0,none⟩ v'):=by
 have far:∀{j:Nat} {o:Obj},W.heap[j]? = some o->(∀cur,o≠.cells cur 69 (0,0))->W1.heap[j]? = some o:=fun hj af=>by
  refine(hg.block _ (Array.getElem?_eq_some_iff.1 hj).1 fun e=>?_).trans hj
  rcases ownsRow_ne_a ho hj af with q|q
  .rw[q]at e;cases e
  exact q e.symm
 have d:=far hv fun cur e=>by first|cases e|exact O5 (Obj.cells.inj e).2.1
 have ad:=far h.lo fun cur e=>by cases e
 have ab:=far h.df fun cur e=>by cases e
 have hs:=grownBy_setCell0_a W1 B v';have aa:Below w0.heap.size w0 W1:=h.low.grown hg h.low.size fun k e=>(ho.lt k e).1;refine⟨d,⟨⟨v',heap_setCell_box_a v' d,ae.kept hs (ownsRow_ne_a ae d fun cur e=>by first|cases e|exact O5 (Obj.cells.inj e).2.1)⟩,(hs.block l (Array.getElem?_eq_some_iff.1 ad).1 fun e=>hb (by cases e;rfl)).trans ad,(hs.block D (Array.getElem?_eq_some_iff.1 ab).1 fun e=>hd (by cases e;rfl)).trans ab,aa.grown hs aa.size fun k e=>by cases e;exact h4⟩,?_⟩;exact(KeepsWalks.of_grownBy hg (ownsRow_not_walk_a ho)).trans (KeepsWalks.setCell _ _ _)
theorem Tv(w:World)(a b:Value)(t:TypeId):∀j u,[a,b][j]? = some u->(w.alloc (.cells #[a,b] t)).cell? (Addr.add ⟨w.heap.size,0,none⟩ j)=some u:=by
 intro j u hj
 match j,hj with
 |0,hj=>simp at hj;subst hj;simp[Addr.add]
 |1,hj=>simp at hj;subst hj;simp[Addr.add]
 |j+2,hj=>simp at hj
theorem Qp(m:Nat)(w0:World)(fn:FuncId)(sv:Value)(B l D:Nat)(h1:B≠l)(h2:D≠l)(h3:D≠B)(h4:w0.heap.size<=B)(h5:w0.heap.size<=l)(ss:List Kk)(x:Kk)(W:World)(h:ApK w0 (apL fn sv B D .ready) B l D ss W)(ay:ss.length<1000000000):
 YieldAt Fence.wide m prog l #[IT x] W fun e W'=>e=.returned (.bool true)/\ApK w0 (apL fn sv B D .ready) B l D (ss++[x]) W'/\KeepsWalks W W':=by
 obtain⟨i0,hi,au,av,aw⟩:=wZ Xy;have hy:=run_yield (P:=prog) (args:=#[IT x]) h.lo rfl;refine⟨fn,#[.slice none 0 0,sv,.pointer (some ⟨B,0,none⟩),undef,.slice none 0 0,undef,sv,IT x,undef,undef,undef,undef,undef],apA,apB,by simpa [apL] using hy,roundIn_of_wpIn trivial ?_⟩;obtain⟨W1,ae⟩:∃q,W.alloc (.cells #[.int .i64 x.1.1,.int .i64 x.1.2] 69)=q:=⟨_,rfl⟩;have ad:ApK w0 (apL fn sv B D .ready) B l D ss W1:=by rw[<-ae];exact h.alloc _
 have ao:KeepsWalks W W1:=by rw[<-ae];exact KeepsWalks.alloc _ _
 have ak:Bk W1 W.heap.size 69 [.int .i64 x.1.1,.int .i64 x.1.2]:=by rw[<-ae];exact Bk.new _ _ _
 have aD:l<W.heap.size:=(Array.getElem?_eq_some_iff.1 h.lo).1;have aj:=run_beginRound (P:=prog) ad.lo rfl;obtain⟨aa,hk⟩:=ad.put h1 h2 h5 (apL fn sv B D .busy);have ab:Bk (W1.putObj l (.loop (apL fn sv B D .busy))) W.heap.size 69 [.int .i64 x.1.1,.int .i64 x.1.2]:=(yc (by omega)).trans ak;obtain⟨W3,ai⟩:∃q,W1.putObj l (.loop (apL fn sv B D .busy))=q:=⟨_,rfl⟩;have ax:_=Result.ok _ W3:=aj.trans (by rw[<-ai];rfl);rw[ai]at aa hk ab;clear aj h ad ak;have ag:=aa.alloc (.cells #[.int .i64 x.1.1,.int .i64 x.1.2] 69);obtain⟨v,hv,ho⟩:=ag.box;obtain⟨v2,af,aE⟩:=aa.box;obtain⟨az,aB⟩:=cell_of_box_a af;have am:B<W3.heap.size:=(Array.getElem?_eq_some_iff.1 af).1;obtain rfl:v=v2:=by have:=(yM W3 (.cells #[.int .i64 x.1.1,.int .i64 x.1.2] 69) B am).symm.trans hv;rw[af]at this;injection this with this;injection this with this;simpa using this.symm
 have x0:=ab.c0;have x1:=ab.c1;have x9:=ab.lt;unfold apA IT
 gi_wp2_with gi_round_op_a
 unfold apB
 gi_wp2_with (first
  |(gi_at_builtin;refine wpListIn_append_own _ rfl _ _ 124 rfl w0.heap.size 69 i0 (.agg #[.int .i64 0,.int .i64 0]) 2 16 underlying124 hi au av aw rfl (by decide) _ _ _ rfl ho ⟨W3.heap.size,0,none⟩ 1 1 (BX x.1) rfl rfl (Tv _ _ _ _) (by intro u hu;simp[BX]at hu;rcases hu with rfl|rfl<;>rfl) (by unfold maxLen;omega) (by omega) (by have:=aa.low.size;simp;omega) ?_;intro v' W4 d an _
    obtain⟨A',c',rfl⟩:=I7 d;rw[<-UV]at d;obtain⟨ar,ah,ap⟩:=ag.step (ts:=ss++[x]) h1 h3 h4 hv ho an (by rw[zV];exact d);obtain⟨aA,aC⟩:=cell_of_box_a ar
    go_frame)
  |gi_round_op_a)
 obtain⟨al,aq⟩:=ah.put h1 h2 h5 (apL fn sv B D .ready);exact⟨_,_,run_endRound none ah.lo,rfl,al,(((ao.trans hk).trans (KeepsWalks.alloc _ _)).trans ap).trans aq⟩
theorem Tw(Bm b nn:Nat)(D0:DataW Value){R:Value->Option (DataW Value×List MemPlace)}(w:World)(an:Bm<w.heap.size)(hm:w.cell? ⟨Bm,0,none⟩=some (.map (some b)))(ab:w.ownsMap prog 69 R b nn D0)(hs:Maps.size D0<=1000000):
 Calls prog 144 #[.slice none 0 0,.func (.func 115) #[] #[.pointer (some ⟨Bm,0,none⟩)]] w fun e w' =>
  ∃v ss,e=.returned v/\(ss.Nodup/\∀x,x∈ss<->has D0 (κk x)=true)/\ss.length<=Maps.size D0/\w'.ownsRow w.heap.size 69 2 v ss.length ((kl ss).flatMap BX)/\Below w.heap.size w w':=by
 refine(callsIn_wide (n:=3)).1 ?_;refine vA func144 rfl trivial ?_ rfl;simp only[ntmps144,xJ,zZ,ye,Nat.reduceAdd,Nat.reduceSub,xB,xC,xS,xG,yT,yi]
 gi_wp2
 refine wpIn_rangeFunc ?_;intro fn aw;obtain⟨sv,ai⟩:∃q,Value.func (.func 115) #[] #[.pointer (some ⟨Bm,0,none⟩)]=q:=⟨_,rfl⟩;obtain⟨W0,h⟩:∃q,w.alloc (.cells #[.slice none 0 0] 124)=q:=⟨_,rfl⟩;have aq:W0.heap.size=w.heap.size+1:=by rw[<-h];simp
 have ar:W0.heap[w.heap.size]? = some (.cells #[.slice none 0 0] 124 (0,0)):=by rw[<-h];exact World.alloc_heap_new w _
 have ae:Below w.heap.size w W0:=by rw[<-h];exact(zI _ w).alloc (zB _) _
 rw[h];obtain⟨W1,d⟩:∃q,(W0.alloc (.deferred (some []))).alloc (.loop (apL fn sv w.heap.size W0.heap.size .ready))=q:=⟨_,rfl⟩
 have ak:∀k,k<W0.heap.size->W1.heap[k]? = W0.heap[k]?:=fun k hk=>by
  rw[<-d];exact(yM _ _ k (by simp;omega)).trans (yM _ _ k hk)
 have hA:ApK w (apL fn sv w.heap.size W0.heap.size .ready) w.heap.size (W0.heap.size+1) W0.heap.size [] W1 :=
  ⟨⟨_,(ak _ (by omega)).trans ar,yO _ _ _ _⟩,
   by rw[<-d];have:=World.alloc_heap_new (W0.alloc (.deferred (some []))) (.loop (apL fn sv w.heap.size W0.heap.size .ready));rwa [zX]at this,
   by rw[<-d];exact(yM _ _ _ (by simp)).trans (World.alloc_heap_new W0 _),by rw[<-d];exact(ae.alloc ae.size _).alloc (by have:=ae.size;simp;omega) _⟩
 have ah:W1.ownsMap prog 69 R b nn D0:=by
  have ao:=ab.lt;obtain⟨es,clock,hb,Ft,ap,hD⟩:=ab;exact⟨es,clock,(hA.low.block b ao).trans hb,Ft,ap,hD⟩
 have al:(Instr.enterLoop fn #[.slice none 0 0,sv,.pointer (some ⟨w.heap.size,0,none⟩),undef,.slice none 0 0,undef,sv,undef,undef,undef,undef,undef,undef] #[7] apA apB none).run prog W0=.ok (W0.heap.size+1,[{ target:=.collected W0.heap.size,args:=#[] }]) W1:=by
  rw[<-d];exact run_enterLoop_outer _ _ _ _ _
 refine ⟨W0.heap.size+1,[{ target:=.collected W0.heap.size,args:=#[] }],W1,{ target:=.fn (.func 115) #[.pointer (some ⟨Bm,0,none⟩)],args:=#[.func (.yield (W0.heap.size+1)) #[] #[]] },W1,115,
  #[.func (.yield (W0.heap.size+1)) #[] #[],.pointer (some ⟨Bm,0,none⟩)],W1,?_,?_,?_,?_,fun _=>by decide,?_⟩
 .rw[ai];exact al
 .rw[ai];simp[resolve,<-ai,go_sem]
 .intro f' _;trivial
 .simp[invoke,go_sem]
 refine (Tt _ (by decide) (W0.heap.size+1) Bm b nn D0 (ApK w (apL fn sv w.heap.size W0.heap.size .ready) w.heap.size (W0.heap.size+1) W0.heap.size)
  (fun pre x W hJ hl=>Qp _ w fn sv w.heap.size (W0.heap.size+1) W0.heap.size (by omega) (by omega) (by omega) (zB _) (by omega) pre x W hJ (by omega))
  W1 (ApK.abides _ _ _ _ _ _ hA.low.size) ((hA.low.cell (p:=⟨Bm,0,none⟩) an).trans hm) ah hA).mono ?_
 rintro e W2 ⟨⟨v0,rfl⟩,ss,hS,aj,h2⟩;obtain⟨v,hv,ho⟩:=h2.box;have aa:=run_endLoop (P:=prog) h2.lo (by simp[apL]);obtain⟨h3,_⟩:=h2.put (by omega) (by omega) (by omega) (apL fn sv w.heap.size W0.heap.size .exhausted);have am:(W2.putObj (W0.heap.size+1) (.loop (apL fn sv w.heap.size W0.heap.size .exhausted))).heap[w.heap.size]? = _:=(yc (by omega)).trans hv;have ag:=ho.kept (grownBy_putObj_a W2 (W0.heap.size+1) (.loop (apL fn sv w.heap.size W0.heap.size .exhausted))) (ownsRow_ne_a ho h2.lo fun cur e=>by cases e);obtain⟨W3,ad⟩:∃q,W2.putObj (W0.heap.size+1) (.loop (apL fn sv w.heap.size W0.heap.size .exhausted))=q:=⟨_,rfl⟩;have af:_=Result.ok _ W3:=aa.trans (by rw[<-ad];rfl);rw[ad]at h3 am ag;clear aa ad;obtain⟨au,av⟩:=cell_of_box_a am;refine⟨none,W3,af,?_⟩
 gi_wp2
 rw[<-aq];refine⟨by simp,.inl ⟨_,_,rfl,wN h3.df,?_⟩⟩;exact⟨_,results_tmp rfl _ _ _,v,ss,rfl,hS,aj,ag.kept (grownBy_putObj_a _ _ _) (ownsRow_ne_a ag h3.df fun cur e=>by cases e),h3.low.grown (grownBy_putObj_a _ _ _) h3.low.size fun k e=>by cases e;omega⟩
def Wz(D0:DataW Value)(ss:List Kk):Prop:=(ss.Nodup/\∀x,x∈ss<->has D0 (κk x)=true)/\ss.length<=Maps.size D0
theorem Qq(Bm b nn:Nat)(D0:DataW Value){R:Value->Option (DataW Value×List MemPlace)}(w:World)(h:Bm<w.heap.size)(hm:w.cell? ⟨Bm,0,none⟩=some (.map (some b)))(d:w.ownsMap prog 69 R b nn D0)(hs:Maps.size D0<=1000000):
 Calls prog 113 #[.func (.func 115) #[] #[.pointer (some ⟨Bm,0,none⟩)]] w fun e w' =>
  ∃A c ss,e=.returned (.slice A (List.length ss) c)/\Wz D0 ss/\w'.ownsRow w.heap.size 69 2 (.slice A ss.length c) ss.length ((kl ss).flatMap BX)/\Below w.heap.size w w':=by
 have k1:=zh (Tw Bm b nn D0 w h hm d hs);clear hm d;go_enter func113,ntmps113
 go_wp2_with fail
 refine k1.o.mono ?_;rintro e w2 ⟨v,ss,rfl,h1,h2,h3,h4⟩;obtain⟨A,c,rfl⟩:=I7 h3;clear k1;replace h3:=zh h3;go_wp2;go_ret;exact⟨A,c,ss,rfl,⟨h1,h2⟩,h3.o,h4⟩
theorem LTq(w:World)(g off n:Nat)(d:Array (Int×Int))(os:Array Obj):w.grownBy (sortWorldK BX 2 w g off n d os) (some g):=by
 refine⟨rfl,rfl,rfl,by simp[sortWorldK,putRowK],fun k hk h=>?_⟩;unfold sortWorldK putRowK;rw[heap_grow_old _ _ (by simpa using hk)];have:g≠k:=fun e=>h (by rw[e]);simp[putRow,mapBlock,Sort.ahead,Array.getElem?_modify,this]
theorem Tx{ss:List Kk}(h:ss.Nodup):(kl ss).toArray.toList.Nodup:=h.map (f:=Subtype.val) (fun _ _ ne e=>ne (Subtype.ext e))
theorem LU(Bm b nn:Nat)(D0:DataW Value){R:Value->Option (DataW Value×List MemPlace)}(w:World)(af:Bm<w.heap.size)(hm:w.cell? ⟨Bm,0,none⟩=some (.map (some b)))(ad:w.ownsMap prog 69 R b nn D0)(hs:Maps.size D0<=1000000):
 Calls prog 66 #[.func (.func 115) #[] #[.pointer (some ⟨Bm,0,none⟩)],.func (.func 68) #[] #[]] w fun e w' =>
  (∃A c ks ss,e=.returned (.slice A (List.length ks) c)/\Xx w' A ks/\Wz D0 ss/\ks.Pairwise KLt/\ks.Perm (kl ss))/\Below w.heap.size w w':=by
 have k1:=zh (Qq Bm b nn D0 w af hm ad hs);clear hm ad;go_enter func66,ntmps66
 go_wp2_with fail
 refine k1.o.mono ?_;rintro e w2 ⟨A,c,ss,rfl,h1,h2,h3⟩;clear k1
 by_cases h0:ss.length=0
 .obtain rfl:ss=[]:=List.eq_nil_of_length_eq_zero h0;have k2:=zh (fun f=>AnyF.slices_SortFunc_none Tryz.sortK A c f w2);clear h0 h2;simp only[ye]
  go_wp2_with fail
  refine(k2.o _).mono ?_;rintro e w3 ⟨rfl,rfl⟩;clear k2;go_wp2;go_ret;exact⟨⟨A,c,[],[],rfl,fun h=>absurd h (xV 0),h1,List.Pairwise.nil,List.Perm.nil⟩,h3⟩
 obtain ⟨g,cap,hA,ah,ab⟩:∃g cap,A=some ⟨g,0,none⟩/\w.heap.size<=g/\g<w2.heap.size:=by
  rcases h2.2 with⟨_,q⟩|⟨g,cap,cur,e,hb,hg,_⟩
  .exact absurd q h0
  injection e with e1 e2 e3;exact⟨g,cap,e1,hb,(Array.getElem?_eq_some_iff.1 hg).1⟩
 subst hA;have hl:(kl ss).length=ss.length:=zW _;have aa:(kl ss).toArray.size=ss.length:=by rw[xJ,hl]
 have hH:=Qo (l:=kl ss) (by rw[hl];exact h2);have k2:=zh (Tr g 0 c (kl ss).toArray w2 hH ab (by have:=h1.2;rw[aa];omega));rw[aa]at k2;clear h0 h2;replace hH:=zh hH;replace h1:=zh h1
 go_wp2_with fail
 refine k2.o.mono ?_;rintro e w3 ⟨rfl,d',n,os,h4,h5,rfl⟩;clear k2;have aj:d'.size=ss.length:=by have:=h4.1;rw[aa]at this;exact this
 have hg:=LTq w2 g 0 n d' os;have ae:=holdsK_sortWorldK BX 2 w2 g 0 n (kl ss).toArray d' os ab hH.o h4.1;have ai:=lt_sortWorldK BX 2 w2 g 0 n d' os ab;have ag:Hid (Below w.heap.size w (sortWorldK BX 2 w2 g 0 n d' os)):=h3.grown hg h3.size fun k e=>by cases e;exact ah
 clear hg ab;generalize sortWorldK BX 2 w2 g 0 n d' os=w3 at *;have hS:=zh (KK (d:=(kl ss).toArray) (by rw[aa];exact h4) (by rw[aa];exact h5) (Tx h1.o.1.1));have hI:=zh (UU ae ai);have hd:ss.length=d'.toList.length:=by have:=h4.1;rw[aa]at this;rw[Array.length_toList];exact this.symm
 rw[hd];clear hH ae h4 h5 h3;go_wp2;go_ret;exact⟨⟨_,c,d'.toList,ss,rfl,hI.o,h1.o,hS.o.1,hS.o.2⟩,ag.o⟩
theorem W6{t:Int}(h:0<=t):ofQ t 6000=Co.uq t.toNat:=by
 unfold ofQ Co.uq;have e:(!(decide (t<0)==decide ((6000:Int)<0)))=false:=by rw[zH (by omega:¬t<0)];rfl
 rw[e]
 show mkRat (t.natAbs:Int) 6000=mkRat (t.toNat:Int) 6000
 congr 1
 omega
theorem Qr{t:Int}(h:0<=t/\t<=6000000000):(rqR (ofQ t 6000)).2.1.size<=140737488355328/\(rqR (ofQ t 6000)).2.2.size<=140737488355328:=by
 rw[W6 h.1];have:=Bu (Co.EO (u:=t.toNat) (by omega));unfold rqR;simp only;omega
theorem JM(ps:List ByteArray)(D:List Ct)(mb:Nat)(w:World)(hE:Env w)(hM:LkM w mb ps D)(hD:Mod D)(aR:D.length<=1000000)(hp:ps.length<=1000000):
 Calls prog 30 #[.map (some mb)] w fun e w'=>(∃A c l,e=.returned (.slice A (List.length l) c)/\IsLinks ps D l/\InLk w' A l/\l.length<=D.length/\∀b off,A=some ⟨b,off,none⟩->w.heap.size<=b)/\Below w.heap.size w w':=by
 obtain⟨mc,aj,aS⟩:=hM;obtain⟨D0,al,aT,aF⟩:=id aj;have am:Hid (Below w.heap.size w (w.alloc (.cells #[.map (some mb)] 64))):=(zI _ w).alloc (zB _) _;have ah:=al.alloc (.cells #[.map (some mb)] 64);have ap:Hid (Bk (w.alloc (.cells #[.map (some mb)] 64)) w.heap.size 64 [.map (some mb)]):=Bk.new w _ _;have k1:=zh (Qn (some mb) w);have k2:=zh (LU w.heap.size mb mc D0 _ ap.o.lt (ap.o.c0) ah (by omega))
 have af:Hid (∀(ks:List (Int×Int)) (ss:List Kk),Wz D0 ss->ks.Pairwise KLt->ks.Perm (kl ss)->IsLinks ps D (ks.map (Fo ps D))/\ks.length<=D.length/\∀x∈ks,∃h:Hi x.1/\Hi x.2,(Ey ps D ⟨x,h⟩).getD (.int .i64 0)=.int .i64 (tot D (nm ps x.1,nm ps x.2))):=fun ks ss h1 h2 h3=>by
  have h4:∀x,x∈ks->Hi x.1/\Hi x.2:=fun x hx=>by
   obtain⟨y,_,rfl⟩:=List.mem_map.1 (h3.mem_iff.1 hx);exact y.2
  have h5:∀x:Kk,x.1∈ks<->KF ps D x.1:=fun x=>by
   rw[h3.mem_iff];have:x.1∈kl ss<->x∈ss:=⟨fun h=>by obtain⟨y,hy,e⟩:=List.mem_map.1 h;rwa [<-Subtype.ext e],fun h=>vC h⟩;rw[this,h1.1.2 x,(aF x).1];unfold Ey
   by_cases q:KF ps D x.1
   .rw[zD q];exact⟨fun _=>q,fun _=>rfl⟩
   rw[zC q];exact⟨fun h=>absurd h (by simp),fun h=>absurd h q⟩
  refine⟨Tu hp h2 h4 h5,?_,fun x hx=>⟨h4 x hx,JK D _ ?_⟩⟩
  .rw[h3.length_eq];have:=h1.2;rw[show (kl ss).length=ss.length from zW _];omega
  have q:=(h5 ⟨x,h4 x hx⟩).1 hx;exact⟨q.1,q.2.1,q.2.2.1,q.2.2.2.1⟩
 clear al aF ah;replace aj:=zh aj;replace hE:=zh hE;replace hD:=zh hD;obtain⟨i0,ar,aw,ax,ay⟩:=wZ Vs;replace ar:=zh ar;replace aw:=zh aw;replace ax:=zh ax;replace ay:=zh ay;go_enter func30,ntmps30
 go_wp2_with fail
 refine k1.o.mono ?_;rintro e w1 ⟨rfl,rfl⟩
 go_wp2_with fail
 refine k2.o.mono ?_;rintro e w2 ⟨⟨A,c,ks,ss,rfl,hI,h1,h2,h3⟩,aG⟩;have ab:Hid (Below w.heap.size w w2):=am.o.trans (aG.mono am.o.size);obtain⟨hL,aQ,ae⟩:=af.o ks ss h1 h2 h3;clear k1 k2 af ap am aG h1 h2 h3 ss;replace hI:=zh hI;replace hL:=zh hL;replace ae:=zh ae;have aK:Hid (MapK prog 69 κk w2 mb mc (Ey ps D)):=aj.o.below ab.o;have aD:Hid (w2.ownsRow w2.heap.size 106 5 (.slice none 0 0) 0 (E0 ((ks.take 0).map (Fo ps D)))):=yO _ _ _ _;have aC:Hid (Below w2.heap.size w2 w2):=zI _ _;go_wp2
 go_loopw [14,4] (fun i o wr=>∃(k:Nat)(A2:Option Addr)(c2:Nat),k<=ks.length/\i=.int .i64 (k:Int)/\o=.slice A2 k c2/\Hid (wr.ownsRow w2.heap.size 106 5 (.slice A2 k c2) k (E0 ((ks.take k).map (Fo ps D))))/\Hid (Below w2.heap.size w2 wr)) (fun i _ _=>ks.length-(intOf i).toNat)
 case atStart=>exact⟨0,none,0,zQ _,rfl,rfl,aD,aC⟩
 case round=>
  obtain⟨k,A2,c2,hk,rfl,rfl,hO,hB⟩:=hrel;clear aD aC;obtain⟨wz,rfl⟩:∃z,z=wr:=⟨_,rfl⟩
  by_cases hlt:k<ks.length
  .obtain ⟨b,off,rfl,aH,aO⟩:=hI.o (by omega);obtain⟨e0,e1⟩:=aO k hlt;obtain⟨az,aa⟩:=ae.o ks[k] (zN hlt);have ak:(ks.take (k+1)).map (Fo ps D)=(ks.take k).map (Fo ps D)++[Fo ps D ks[k]]:=by rw[zO hlt,zw];rfl
   have k0:(0:Int)<=(k:Int):=by omega
   have k1:(k:Int)<(ks.length:Int):=by omega
   generalize ks[k]=x at e0 e1 az aa ak;replace e0:=(hB.o.cell (p:=⟨b,_,none⟩) aH).trans e0;replace e1:=(hB.o.cell (p:=⟨b,_,none⟩) aH).trans e1;obtain⟨x1,x2⟩:=x;simp only at e0 e1;obtain⟨t,ht⟩:∃t,t=tot D (nm ps x1,nm ps x2):=⟨_,rfl⟩
   have aU:0<=t/\t<=6000000000:=by
    have:=ND hD.o (nm ps x1,nm ps x2);rw[<-ht]at this;omega
   simp only at aa;rw[<-ht]at aa;obtain⟨g,n,d,hq,au⟩:∃g n d,qv (ofQ t 6000)=.agg #[.bool g,.string n,.string d]/\Fo ps D (x1,x2)=(x1,x2,g,n,d):=⟨_,_,_,rfl,by rw[ht];rfl⟩;have aA:Hid (Below w.heap.size w wz):=ab.o.trans (hB.o.mono ab.o.size);have ai:Hid (Bk (wz.alloc (.cells #[.int .i64 x1,.int .i64 x2] 69)) wz.heap.size 69 [.int .i64 x1,.int .i64 x2]):=Bk.new _ _ _;have aB:Hid (Below w2.heap.size w2 (wz.alloc (.cells #[.int .i64 x1,.int .i64 x2] 69))):=hB.o.alloc hB.o.size _;have aL:Hid ((wz.alloc (.cells #[.int .i64 x1,.int .i64 x2] 69)).ownsRow w2.heap.size 106 5 (.slice A2 k c2) k (E0 ((ks.take k).map (Fo ps D)))):=hO.o.alloc _;have ag:=((aK.o.below hB.o).alloc (.cells #[.int .i64 x1,.int .i64 x2] 69)).look FI underlying64 (HI _) (LQ ⟨(x1,x2),az⟩);rw[aa]at ag;have kr:=zh (EY t 6000 (by omega) (by omega) (by omega) (by omega) (by omega) (wz.alloc (.cells #[.int .i64 x1,.int .i64 x2] 69)) (hE.o.below (aA.o.alloc aA.o.size _)));rw[hq]at kr;have y0:=ai.o.c0;have y1:=ai.o.c1;have y9:=ai.o.lt;replace ht:=zh ht;replace ak:=zh ak;replace au:=zh au;replace hq:=zh hq;clear aa
   go_wp2_with fail
   refine kr.o.q fun w4 aq=>?_;clear y0 y1 y9 e0 e1 ag kr;have ad:=zh (ai.o.below aq);have an:Hid (Below w2.heap.size w2 w4):=aB.o.trans (aq.mono aB.o.size);have aM:Hid (w4.ownsRow w2.heap.size 106 5 (.slice A2 k c2) k (E0 ((ks.take k).map (Fo ps D)))):=AC aL.o aq;have z0:=ad.o.c0;have z1:=ad.o.c1;have z9:=ad.o.lt
   have had:Hid (∀j u,(lkL (x1,x2,g,n,d))[j]? = some u->((w4.alloc (.cells #[.bool g,.string n,.string d] 48)).alloc (.cells #[.int .i64 x1,.int .i64 x2,.bool g,.string n,.string d] 106)).cell? (Addr.add ⟨w4.heap.size+1,0,none⟩ j)=some u):=by
    have h:=K7 (w4.alloc (.cells #[.bool g,.string n,.string d] 48)) (x1,x2,g,n,d) 106;simp only[zX]at h;exact h
   have aE:Hid (((w4.alloc (.cells #[.bool g,.string n,.string d] 48)).alloc (.cells #[.int .i64 x1,.int .i64 x2,.bool g,.string n,.string d] 106)).ownsRow w2.heap.size 106 5 (.slice A2 k c2) k (E0 ((ks.take k).map (Fo ps D)))):=(aM.o.alloc _).alloc _;have ao:Hid (Below w2.heap.size w2 ((w4.alloc (.cells #[.bool g,.string n,.string d] 48)).alloc (.cells #[.int .i64 x1,.int .i64 x2,.bool g,.string n,.string d] 106))):=(an.o.alloc an.o.size _).alloc (by have:=an.o.size;simp;omega) _
   have av:Hid (∀v' w',w'.ownsRow w2.heap.size 106 5 v' (k+1) (E0 ((ks.take k).map (Fo ps D))++lkL (x1,x2,g,n,d))->((w4.alloc (.cells #[.bool g,.string n,.string d] 48)).alloc (.cells #[.int .i64 x1,.int .i64 x2,.bool g,.string n,.string d] 106)).grownBy w' (Value.slice A2 k c2).ownBlock ->
    w'.ownsRow w2.heap.size 106 5 v' (k+1) (E0 ((ks.take (k+1)).map (Fo ps D)))/\Below w2.heap.size w2 w'):=fun v' w' h1 h2=>
    ⟨by rw[ak.o,au.o,JI];exact h1,ao.o.grown h2 ao.o.size fun b e=>(aE.o.lt b e).1⟩
   have aN:Hid (w2.heap.size<=((w4.alloc (.cells #[.bool g,.string n,.string d] 48)).alloc (.cells #[.int .i64 x1,.int .i64 x2,.bool g,.string n,.string d] 106)).heap.size):=ao.o.size
   go_wp2_with (at_builtin;refine Ci.wpList_append_new _ rfl _ _ 30 rfl w2.heap.size 106 i0 STq 5 56 underlying30 ar.o aw.o ax.o ay.o rfl (by decide) (.slice A2 k c2) k _ rfl aE.o ⟨w4.heap.size+1,0,none⟩ 1 1 (lkL (x1,x2,g,n,d)) rfl rfl had.o (NA _) (by decide) (by unfold maxLen;omega) (by omega) aN.o ?_;intro vb wb ho hg hn;obtain⟨q1,q2⟩:=av.o vb wb ho hg;obtain⟨A9,c9,rfl⟩:=PY q1;replace q1:=zh q1;replace q2:=zh q2;clear ho hg hn)
   exact⟨⟨k+1,A9,c9,by omega,by go_num,by go_num,q1,q2⟩,by simp only[intOf];omega⟩
  obtain rfl:k=ks.length:=by omega
  rw[zn]at hO;have aI:(ks.map (Fo ps D)).length=ks.length:=zW _
  have hQ:Hid (∃A c l,(.slice A2 ks.length c2:Value)=.slice A (List.length l) c/\IsLinks ps D l/\InLk wz A l/\l.length<=D.length/\∀b off,A=some ⟨b,off,none⟩->w.heap.size<=b):=by
   obtain⟨A,cp,e,aP⟩:=Oy (l:=ks.map (Fo ps D)) (by rw[aI];exact hO.o);refine⟨A,cp,_,e,hL.o,aP,by rw[aI];exact aQ,fun b off q=>?_⟩;have:=(hO.o.lt b (by rw[e,q];rfl)).1;have:=ab.o.size;omega
  have aJ:Hid (Below w.heap.size w wz):=ab.o.trans (hB.o.mono ab.o.size);go_wp2;go_ret;obtain⟨A,cp,l,e,q⟩:=hQ.o;exact⟨⟨A,cp,l,congrArg Ending.returned e,q⟩,aJ.o⟩
end Rg
end
section
open Go.RowKit Go.Shelf
namespace Rg
open Nt Ci
theorem Qs{s:ByteArray}(h:Ak s=true):s.size≠0:=by
 unfold Ak at h;simp only[zq,yG]at h;omega
theorem LV{h:Hd}(hp:Proper h){x:ByteArray}(hx:x∈Cl h):x∈nms h:=by
 unfold Cl at hx;unfold nms
 split at hx
 .rcases List.mem_cons.1 hx with rfl|hx
  .simp
  obtain⟨k,hk,rfl⟩:=zg hx;have:h.jo[k]∈h.jo.flatMap opt:=List.mem_flatMap.2 ⟨_,zN hk,by unfold opt;rw[zC (Qs (hp.2.1 k hk).1)];exact List.mem_singleton.2 rfl⟩;simp[this]
 rename_i c;rw[List.mem_singleton.1 hx];simp[opt,c]
theorem Ty{h:Hd}(hp:Proper h){x:ByteArray}(hx:x∈Eh h):x∈nms h:=by
 unfold Eh at hx
 split at hx
 .exact LV hp hx
 rename_i c;rw[List.mem_singleton.1 hx];simp[nms,opt,c]
theorem Qt{l:List Hd}{ps:List ByteArray}(h:IsParts l ps){x:Hd}(hx:x∈l){y:ByteArray}(hy:y∈nms x):y∈ps:=(h.2 y).2 (List.mem_flatMap.2 ⟨x,hx,hy⟩)
theorem I8{h:Hd}(hp:Proper h):(Cl h).length<=5:=by
 have:=hp.1.2.2.2.2.2.1;unfold Cl
 split<;>simp;omega
theorem LW{h:Hd}(hp:Proper h):(Eh h).length<=5:=by
 unfold Eh
 split
 .exact I8 hp
 simp
theorem LX(who:List ByteArray)(co:ByteArray)(p:Int):(Kj who co p).length<=who.length:=by
 unfold Kj;rw[zW];exact zr _ _
theorem LY{who:List ByteArray}{co:ByteArray}{p:Int}(hp:Cr p):Mod (Kj who co p):=fun x hx=>by
 unfold Kj at hx;obtain⟨y,_,rfl⟩:=List.mem_map.1 hx;unfold Cr at hp
 show 0<=p*60/(who.length:Int)/\p*60/(who.length:Int)<=6000
 exact⟨Int.ediv_nonneg (by omega) (by omega),Int.le_trans (Int.ediv_le_self _ (by omega)) (by omega)⟩
theorem O6:Mod []:=fun _ h=>by cases h
theorem Tz{h:Hd}(hp:Proper h)(day:Int):Mod (addC day h):=by
 unfold addC
 split
 .exact LY hp.2.2.2.2.1
 exact O6
theorem T0{h:Hd}(hp:Proper h)(day:Int):Mod (addV day h):=by
 unfold addV
 split
 .exact LY hp.2.2.2.2.2.1
 exact O6
theorem LZ{h:Hd}(hp:Proper h)(day:Int):(addC day h).length<=5:=by
 unfold addC
 split
 .exact zS (LX _ _ _) (I8 hp)
 simp
theorem Ma{h:Hd}(hp:Proper h)(day:Int):(addV day h).length<=5:=by
 unfold addV
 split
 .exact zS (LX _ _ _) (LW hp)
 simp
theorem Mb{l:List Hd}{f:Hd->List Ct}(h:∀x∈l,Mod (f x)):Mod (l.flatMap f):=fun y hy=>by
 obtain⟨x,hx,hy⟩:=List.mem_flatMap.1 hy;exact h x hx y hy
theorem Hq{l:List Hd}{f:Hd->List Ct}(h:∀x∈l,(f x).length<=5):(l.flatMap f).length<=5*l.length:=by
 induction l with
 |nil=>exact zB _
 |cons x l ih=>
  have h1:=h x zf;have h2:=ih fun y hy=>h y (zY _ hy);rw[List.flatMap_cons,zV,zZ];omega
theorem Fg{l:List Hd}(f:Hd->List Ct){k:Nat}(h:k<l.length):(l.take (k+1)).flatMap f=(l.take k).flatMap f++f l[k]:=by
 rw[zO h,List.flatMap_append,List.flatMap_singleton]
theorem AtS.unique{l:List Hd}{day:Int}{s t:SR}(hs:AtS l day s)(ht:AtS l day t):s=t:=by
 obtain⟨ps,c,v⟩:=s;obtain⟨qs,d,u⟩:=t;obtain⟨a1,a2,a3⟩:=hs;obtain⟨b1,b2,b3⟩:=ht;have e:ps=qs:=a1.unique b1 fun _=>wB;subst e;have e2:c=d:=a2.unique b2 (fun _=>wB) fun _=>rfl;have e3:v=u:=a3.unique b3 (fun _=>wB) fun _=>rfl;rw[e2,e3]
theorem Gj{l:List Hd}(h:Valid l){x:Hd}(hx:x∈l):Proper x:=by
 obtain⟨k,hk,rfl⟩:=zg hx;exact(h.1 k hk).1
theorem W7{W:World}{b:Nat}{l:List ByteArray}(h:Bk W b 9 (l.map .string)):InStr W (some ⟨b,0,none⟩) l:=fun _=>⟨b,0,rfl,h.lt,fun j hj=>by
 rw[yE];exact h.cell (by simp[hj])⟩
theorem InLk.same{W W':World}{A:Option Addr}{l:List Lk}(h:InLk W A l)(hs:W.heap.size<=W'.heap.size)(he:∀b off,A=some ⟨b,off,none⟩->b<W.heap.size->W'.heap[b]? = W.heap[b]?):InLk W' A l:=fun h0=>by
 obtain⟨b,off,e,hb,hc⟩:=h h0;have f:=fun j=>zT (w:=W) (w':=W') (a:=⟨b,j,none⟩) (he b off e hb);refine⟨b,off,e,zJ hb hs,fun j hj=>?_⟩;obtain⟨q0,q1,q2,q3,q4⟩:=hc j hj;exact⟨(f _).trans q0,(f _).trans q1,(f _).trans q2,(f _).trans q3,(f _).trans q4⟩
theorem InStr.same{W W':World}{A:Option Addr}{l:List ByteArray}(h:InStr W A l)(hs:W.heap.size<=W'.heap.size)(he:0<l.length->∀b off,A=some ⟨b,off,none⟩->b<W.heap.size->W'.heap[b]? = W.heap[b]?):InStr W' A l:=fun h0=>by
 obtain⟨b,off,e,hb,hc⟩:=h h0;exact⟨b,off,e,zJ hb hs,fun j hj=>(zT (w:=W) (w':=W') (a:=⟨b,_,none⟩) (he h0 b off e hb)).trans (hc j hj)⟩
theorem InInt.same{W W':World}{A:Option Addr}{l:List Int}(h:InInt W A l)(hs:W.heap.size<=W'.heap.size)(he:∀b off,A=some ⟨b,off,none⟩->b<W.heap.size->W'.heap[b]? = W.heap[b]?):InInt W' A l:=fun h0=>by
 obtain⟨b,off,e,hb,hc⟩:=h h0;exact⟨b,off,e,zJ hb hs,fun j hj=>(zT (w:=W) (w':=W') (a:=⟨b,_,none⟩) (he b off e hb)).trans (hc j hj)⟩
theorem StIn.kp{W W':World}{s:SR}{Ap Ac Av:Option Addr}{x n:Nat}(h:StIn W s Ap Ac Av)(hk:Kp [x] W W')(hx:x<n)(fp:Fr n Ap)(fc:Fr n Ac)(fv:Fr n Av):StIn W' s Ap Ac Av :=
 have q:∀b,n<=b->b<W.heap.size->W'.heap[b]? = W.heap[b]?:=fun b h1 h2=>hk.block b h2 (by simp;omega)
 ⟨InStr.same h.ps hk.size fun _ b off e=>q b (fp b off e),InLk.same h.cap hk.size fun b off e=>q b (fc b off e),InLk.same h.vot hk.size fun b off e=>q b (fv b off e),h.np,h.nc,h.nv,h.zp,h.zc,h.zv,h.ic,h.iv⟩
theorem IsLinks.sz{ps:List ByteArray}{D:List Ct}{l:List Lk}(h:IsLinks ps D l)(hD:Mod D)(hl:D.length<=1000000)(hp:ps.length<=1000000){x:Lk}(hx:x∈l):
 (x.2.2.2.1.size<=140737488355328/\x.2.2.2.2.size<=140737488355328)/\(-9223372036854775808<=x.1/\x.1<=9223372036854775807)/\(-9223372036854775808<=x.2.1/\x.2.1<=9223372036854775807):=by
 obtain⟨i,j,hi,hj,e1,e2,_,e4⟩:=h.2.1 x hx;have ht:=ND hD (ps[i],ps[j]);have hs:=Qr (t:=tot D (ps[i],ps[j])) (by omega);rw[<-e4]at hs;exact⟨hs,by omega,by omega⟩
theorem W8{h:Hd}(hz:HdSz h){x:ByteArray}(hx:x∈nms h):x.size<=140737488355328:=by
 obtain⟨z0,z1,z2,z3,z4,z5,z6,_⟩:=hz;unfold nms at hx
 have ho:∀{s:ByteArray},x∈opt s->x=s:=fun {s} h=>by
  unfold opt at h
  split at h
  .cases h
  exact List.mem_singleton.1 h
 rcases List.mem_cons.1 hx with rfl|hx
 .exact z1
 rcases List.mem_cons.1 hx with rfl|hx
 .exact z2
 rcases List.mem_append.1 hx with hx|hx
 .rcases List.mem_append.1 hx with hx|hx
  .rw[ho hx];exact z3
  rw[ho hx];exact z4
 obtain⟨y,hy,hx⟩:=List.mem_flatMap.1 hx;rw[ho hx];exact z6 y hy
structure AtI(w0:World)(ps:List ByteArray)(A:Option Addr)(c sb:Nat)(DC DV:List Ct)(W:World):Prop where
 pl:PlIn W ps A c sb (sb+3)
 mc:LkM W (sb+1) ps DC
 mv:LkM W (sb+2) ps DV
 x:Bk W sb 32 [.slice A ps.length c,.slice none 0 0,.slice none 0 0]
 r:Bk W w0.heap.size 32 [.slice none 0 0,.slice none 0 0,.slice none 0 0]
 b:Below w0.heap.size w0 W
 a:0<ps.length->∀b off,A=some ⟨b,off,none⟩->b<sb/\b≠w0.heap.size
 s:w0.heap.size<sb
theorem LkM.below{W W':World}{b:Nat}{ps:List ByteArray}{D:List Ct}(h:LkM W b ps D)(hb:Below W.heap.size W W'):LkM W' b ps D:=by
 obtain⟨c,h1,h2⟩:=h;exact⟨c,h1.below hb,h2⟩
theorem LkM.kept{W W':World}{b:Nat}{ps:List ByteArray}{D:List Ct}{row:Option Nat}(h:LkM W b ps D)(hg:W.grownBy W' row)(d:some b≠row):LkM W' b ps D:=by
 obtain⟨c,h1,h2⟩:=h;exact⟨c,h1.kept hg d,h2⟩
theorem LkM.lt{W:World}{b:Nat}{ps:List ByteArray}{D:List Ct}(h:LkM W b ps D):b<W.heap.size:=by
 obtain⟨c,h1,_⟩:=h;exact h1.lt
section
variable {w0:World} {ps:List ByteArray} {A:Option Addr} {c sb:Nat} {DC DV:List Ct} {W W':World}
theorem AtI.below(h:AtI w0 ps A c sb DC DV W)(hb:Below W.heap.size W W'):AtI w0 ps A c sb DC DV W' :=
 ⟨h.pl.below hb,h.mc.below hb,h.mv.below hb,h.x.below hb,h.r.below hb,h.b.trans (hb.mono h.b.size),h.a,h.s⟩
theorem AtI.cap{DC':List Ct}(h:AtI w0 ps A c sb DC DV W)(h0:0<ps.length)(hg:W.grownBy W' (some (sb+1)))(hm:LkM W' (sb+1) ps DC'):AtI w0 ps A c sb DC' DV W' :=
 ⟨h.pl.grown hg (fun e=>by injection e with e;omega) (fun e=>by injection e with e;omega) (fun b off e q=>by injection q with q;have:=(h.a h0 b off e).1;omega),
  hm,h.mv.kept hg (fun e=>by injection e with e;omega),h.x.grown hg (by intro e;injection e with e;omega),h.r.grown hg (by have:=h.s;intro e;injection e with e;omega),h.b.grown hg h.b.size (fun k e=>by cases e;have:=h.s;omega),h.a,h.s⟩
theorem AtI.vot{DV':List Ct}(h:AtI w0 ps A c sb DC DV W)(h0:0<ps.length)(hg:W.grownBy W' (some (sb+2)))(hm:LkM W' (sb+2) ps DV'):AtI w0 ps A c sb DC DV' W' :=
 ⟨h.pl.grown hg (fun e=>by injection e with e;omega) (fun e=>by injection e with e;omega) (fun b off e q=>by injection q with q;have:=(h.a h0 b off e).1;omega),
  h.mc.kept hg (fun e=>by injection e with e;omega),hm,h.x.grown hg (by intro e;injection e with e;omega),h.r.grown hg (by have:=h.s;intro e;injection e with e;omega),h.b.grown hg h.b.size (fun k e=>by cases e;have:=h.s;omega),h.a,h.s⟩
end
theorem AtI.start{w0 W:World}{ps:List ByteArray}{A:Option Addr}{c:Nat}(hb:Below w0.heap.size w0 W)(hr:Bk W w0.heap.size 32 [.slice none 0 0,.slice none 0 0,.slice none 0 0])(hS:InStr W A ps)(hp:ps.Pairwise ltB)(hl:ps.length<=1000000):
 AtI w0 ps A c W.heap.size [] [] ((((W.alloc (.cells #[.slice A ps.length c,.slice none 0 0,.slice none 0 0] 32)).alloc (.map #[] 0)).alloc (.map #[] 0)).alloc (.cells #[.func (.func 26) #[] #[.pointer (some ⟨W.heap.size,0,none⟩)]] 67)):=by
 have hx:=Bk.new W 32 [.slice A ps.length c,.slice none 0 0,.slice none 0 0];have h:=(zI W.heap.size W).alloc (zB _) (.cells #[.slice A ps.length c,.slice none 0 0,.slice none 0 0] 32);obtain⟨W1,ab⟩:∃q,W.alloc (.cells #[.slice A ps.length c,.slice none 0 0,.slice none 0 0] 32)=q:=⟨_,rfl⟩;have am:W1.heap.size=W.heap.size+1:=by rw[<-ab];simp
 have ao:Bk W1 W.heap.size 32 [.slice A ps.length c,.slice none 0 0,.slice none 0 0]:=by rw[<-ab];exact hx
 rw[ab]at h ⊢;clear hx ab;have ae:=MapK.made W1 prog 69 κk;have aa:=h.alloc h.size (.map #[] 0);obtain⟨W2,ad⟩:∃q,W1.alloc (.map #[] 0)=q:=⟨_,rfl⟩;have an:W2.heap.size=W.heap.size+2:=by rw[<-ad];simp[am]
 have ap:Bk W2 W.heap.size 32 [.slice A ps.length c,.slice none 0 0,.slice none 0 0]:=by rw[<-ad];exact ao.alloc _
 rw[ad]at aa ae ⊢;rw[am]at ae;clear ao ad h;have ah:=MapK.made W2 prog 69 κk;have af:=aa.alloc aa.size (.map #[] 0);obtain⟨W3,d⟩:∃q,W2.alloc (.map #[] 0)=q:=⟨_,rfl⟩;have av:W3.heap.size=W.heap.size+3:=by rw[<-d];simp[an]
 have aw:Bk W3 W.heap.size 32 [.slice A ps.length c,.slice none 0 0,.slice none 0 0]:=by rw[<-d];exact ap.alloc _
 have aj:MapK prog 69 κk W3 (W.heap.size+1) 0 fun _=>none:=by rw[<-d];exact ae.alloc _
 rw[d]at af ah ⊢;rw[an]at ah;clear ap d aa ae;have ho:=Bk.new W3 67 [.func (.func 26) #[] #[.pointer (some ⟨W.heap.size,0,none⟩)]];have ag:=af.alloc af.size (.cells #[.func (.func 26) #[] #[.pointer (some ⟨W.heap.size,0,none⟩)]] 67);have ai:=aw.alloc (.cells #[.func (.func 26) #[] #[.pointer (some ⟨W.heap.size,0,none⟩)]] 67);have ak:=aj.alloc (.cells #[.func (.func 26) #[] #[.pointer (some ⟨W.heap.size,0,none⟩)]] 67);have al:=ah.alloc (.cells #[.func (.func 26) #[] #[.pointer (some ⟨W.heap.size,0,none⟩)]] 67);rw[av]at ho
 have hn:∀x,(fun _:Kk=>(none:Option Value)) x=Ey ps [] x:=fun x=>by
  unfold Ey;rw[zC];rintro⟨_,_,_,_,v,hv⟩
  cases hv
 have au:=hr.lt;refine⟨⟨hS.below ag,hp,hl,ai.c0,ai.lt,ho.c0,ho.lt⟩,⟨0,ak.congr hn,zQ _⟩,⟨0,al.congr hn,zQ _⟩,ai,hr.below ag,hb.trans (ag.mono hb.size),fun h0 b off e=>?_,au⟩;obtain⟨b2,off2,e2,aq,ar⟩:=hS h0;rw[e]at e2;injection e2 with e2;injection e2 with e2 e3;subst e2;refine⟨aq,fun e4=>?_⟩;have h1:=ar 0 h0;subst e4
 have h2:∀j u,W.cell? ⟨w0.heap.size,j,none⟩=some u->u=.slice none 0 0:=fun j u hu=>by
  simp only[World.cell?,show W.heap[w0.heap.size]? = _ from hr]at hu
  match j,hu with
  |0,hu=>simpa using hu.symm
  |1,hu=>simpa using hu.symm
  |2,hu=>simpa using hu.symm
  |j+3,hu=>simp at hu
 cases h2 _ _ h1
end Rg
end
end Go.Proofs.YtefmpngjjmddjaaGreatDoor

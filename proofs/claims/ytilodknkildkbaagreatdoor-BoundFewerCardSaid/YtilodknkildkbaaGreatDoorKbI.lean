/- Texts that the proof needs: BndChk, ShaEffP, ShaEReg, CirThru, CirPhase, CirLists, CirP, CirParts, ShaEffQ. -/
import Derived.Deep.QuietTactic
import Derived.BigQuiet
import Derived.WalkMore
import Derived.Test.YtilodknkildkbaaGreatDoorKbA
import Derived.Test.YtilodknkildkbaaGreatDoorKbB
import Derived.Test.YtilodknkildkbaaGreatDoorKbC
import Derived.Test.YtilodknkildkbaaGreatDoorKbD
import Derived.Test.YtilodknkildkbaaGreatDoorKbE
import Derived.Test.YtilodknkildkbaaGreatDoorKbF
import Derived.Test.YtilodknkildkbaaGreatDoorKbG
import Derived.Test.YtilodknkildkbaaGreatDoorKbH
set_option maxHeartbeats 32000000
set_option maxRecDepth 1000000
namespace Go.Proofs.YtilodknkildkbaaGreatDoor
theorem tkbI{P:Program}{md:Region.Mode}{ops:Array Oper}{Q:Exit→Act→World→Prop}{S:World→Prop}{oi:Oper}{v:Value}{fuel:Nat}{listed:Array Bool}{a:Act}{w:World}(i:Nat)(hi:ops[i]?=some oi)(hS:S w)(hy:YieldsIf P ops S oi v a)(h:wpAnyH P md ops Q S fuel (listed.setIfInBounds i true) (a.put oi.dst v) w)(hs:Region.noSelect ops=true:=by kernel_rfl)(hf:Region.free md ops listed i=true:=by kernel_rfl)(hr:(Region.ready md ops listed).contains i=true:=by kernel_rfl)(hQ:∀c a w,Q (.panic c) (a.put oi.dst v) w→Q (.panic c) a w:=by exact fun _ _ _ h=>h):wpAnyH P md ops Q S (fuel+1) listed a w:=wpAnyH_take hi hs hf hr hQ hy hS h
section
open Go.RowKit Go.Shelf
attribute [local go_sem] Oper.semAt_some
namespace Bd
open Nt Ci Sh
def D5 (L:List Lp) (F:List Nat) (ab:Bool) (v:Nat→Rat) (r:Nat→Int) (p:Nat):Prop :=
 (ab=true→(p∈F→1≤v p)∧(p∉F→Aj p v L≤v p))∧(ab=false→QU L F v r p)
def rnk (R:List Int) (p:Nat):Int:=R.getD p 0
def Chk (s:SR) (F:List Int) (ab:Bool) (V:List Raw) (R:List Int):Prop :=
 (soundB s=true∧listB s.ps.length F=true)∧V.length=s.ps.length∧R.length=(if ab then 0 else s.ps.length)∧D1 V=true∧∀p,p<s.ps.length→D5 (Ad s.cap) (toN F) ab (BT V) (rnk R) p
theorem Rg {P:Program} {Q:Exit→Act→World→Prop} {c:Code} {t:Array Value} {ds:List Deferred} {w:World} (h:∀fr,fr=t→c.wp P Q { tmps:=fr,defers:=ds } w):c.wp P Q { tmps:=t,defers:=ds } w:=h t rfl
theorem Ib (q:Rat):((rq q).2.1.toList==[48])=decide (q=0):=(Be q.num.natAbs).trans (decide_eq_decide.2 ⟨fun h=>Rat.num_eq_zero.1 (Int.natAbs_eq_zero.1 h),fun h=>by rw[h];rfl⟩)
def Gd (L:List Lp) (v:Nat→Rat) (r:Nat→Int) (p i:Nat):Prop:=0≤r (L.getD i (0,0,0)).2.1∧r (L.getD i (0,0,0)).2.1<r p∧v (L.getD i (0,0,0)).2.1≠0
def NG {n:Nat} (L:List Lp) (v:Nat→Rat) (r:Nat→Int) (p:Nat) (pre:List (E0 n)):Prop:=∀i,i∈pre→¬Gd L v r p i.1
def SG {n:Nat} (L:List Lp) (v:Nat→Rat) (r:Nat→Int) (p:Nat) (pre:List (E0 n)):Prop:=∃i,i∈pre∧Gd L v r p i.1
theorem NG.snoc {n:Nat} {L:List Lp} {v:Nat→Rat} {r:Nat→Int} {p:Nat} {pre:List (E0 n)} {x:E0 n} (h:NG L v r p pre) (hx:¬Gd L v r p x.1):NG L v r p (pre++[x]):=fun i hi=>by
 rcases List.mem_append.1 hi with h1 | h1
 · exact h i h1
 · rw[List.mem_singleton.1 h1];exact hx
theorem SG.snoc {n:Nat} {L:List Lp} {v:Nat→Rat} {r:Nat→Int} {p:Nat} (pre:List (E0 n)) {x:E0 n} (hx:Gd L v r p x.1):SG L v r p (pre++[x]):=⟨x,List.mem_append.2 (.inr (List.mem_singleton.2 rfl)),hx⟩
theorem Ic {s:SR} {i:Nat} (hi:i<s.cap.length):(Ad s.cap).getD i (0,0,0)=(Ad s.cap)[i]'(by unfold Ad;rw[List.length_map];exact hi):=by
 rw[List.getD_eq_getElem?_getD,List.getElem?_eq_getElem (by unfold Ad;rw[List.length_map];exact hi)];rfl
theorem OI {s:SR} (hsd:soundB s=true) {v:Nat→Rat} {r:Nat→Int} {p:Nat} (h:∃x,x∈Ad s.cap∧x.1=p∧0≤r x.2.1∧r x.2.1<r p∧v x.2.1≠0):∃i:E0 s.cap.length,i∈Ek (p:Int) s.cap s.cap.length∧Gd (Ad s.cap) v r p i.1:=by
 obtain⟨x,hx,h1,h2⟩:=h;obtain⟨i,hi,rfl⟩:=List.getElem_of_mem hx;have hi2:i<s.cap.length:=by have:(Ad s.cap).length=s.cap.length:=by { unfold Ad;rw[List.length_map] };omega
 obtain⟨co,ho,Ag,hle,hlp,_,_⟩:=CX hsd (k:=i) hi2;refine⟨⟨i,hi2⟩,?_,?_⟩
 · unfold Ek;refine List.mem_filterMap.2 ⟨i,List.mem_range.2 hi2,?_⟩;rw[dif_pos hi2,if_pos];rw[hle];rw[hlp]at h1
   show (co:Int)=(p:Int)
   have:co=p:=h1;rw[this]
 · unfold Gd;rw[Ic hi2];exact h2
theorem OJ {s:SR} (hsd:soundB s=true) {v:Nat→Rat} {r:Nat→Int} {p k:Nat} {i:E0 s.cap.length} (h:i∈Ek (p:Int) s.cap k) (hg:Gd (Ad s.cap) v r p i.1):∃x,x∈Ad s.cap∧x.1=p∧0≤r x.2.1∧r x.2.1<r p∧v x.2.1≠0:=by
 obtain⟨j,hj⟩:=i;unfold Ek at h;obtain⟨j2,_,h2⟩:=List.mem_filterMap.1 h;unfold Gd at hg;rw[Ic hj]at hg;refine⟨_,List.getElem_mem _,?_,hg⟩;obtain⟨co,ho,Ag,hle,hlp,_,_⟩:=CX hsd (k:=j) hj;rw[hlp]
 show co=p
 by_cases c:j2<s.cap.length
 · rw [dif_pos c]at h2
   by_cases d:s.cap[j2].1=(p:Int)
   · rw[if_pos d]at h2
     cases h2
     rw[hle]at d;have:(co:Int)=(p:Int):=d;omega
   · rw[if_neg d]at h2;cases h2
 · rw[dif_neg c]at h2;cases h2
theorem AY {c:Bool} {A B:Prop} (h:c=false) (hb:B):if c=true then A else B:=by subst h;exact hb
theorem AZ {c:Bool} {A B:Prop} (h:c=true) (ha:A):if c=true then A else B:=by subst h;exact ha
theorem FN (A:Option Addr) (ca:Nat) (l:List Int) (x:Int) (w:World) (hA:InInt w A l) (hl:l.length≤140737488355328) :
 Calls Tryz.prog 42 #[.slice A l.length ca,.int .i64 x] w fun e w'=>e=.returned (.bool (decide (x∈l)))∧w'=w:=by
 have k:=IN A ca l x w hA hl;have hm:=TW (l:=l) (x:=x);replace hA:=zh hA;generalize FJ l x=i at k hm;rw[←hm];clear hm;go_enter Tryz.func42,Tryz.ntmps42
 go_wp2_with fail
 refine k.mono ?_;rintro e w1 ⟨rfl,hw⟩;obtain rfl:=hw;clear k;go_wp2;go_ret;exact⟨rfl,rfl⟩
def ChkPost (s:SR) (F:List Int) (ab:Bool) (V:List Raw) (R:List Int) (w:World) (e:Ending) (w':World):Prop:=(∃r,e=.returned (.bool r)∧(r=true↔Chk s F ab V R))∧Below w.heap.size w w'
theorem ChkPost.no {s:SR} {F:List Int} {ab:Bool} {V:List Raw} {R:List Int} {w:World} {w':World} (h:¬Chk s F ab V R) (hb:Below w.heap.size w w'):ChkPost s F ab V R w (.returned (.bool false)) w' :=
 ⟨⟨false,rfl,by simp[h]⟩,hb⟩
theorem ChkPost.no' {s:SR} {F:List Int} {ab:Bool} {V:List Raw} {R:List Int} {w:World} {e:Ending} {w':World} (h:¬Chk s F ab V R) (he:e=.returned (.bool false)) (hb:Below w.heap.size w w'):ChkPost s F ab V R w e w':=by
 subst he;exact ChkPost.no h hb
theorem ChkPost.yes {s:SR} {F:List Int} {ab:Bool} {V:List Raw} {R:List Int} {w:World} {e:Ending} {w':World} (h:Chk s F ab V R) (he:e=.returned (.bool true)) (hb:Below w.heap.size w w'):ChkPost s F ab V R w e w':=by
 subst he;exact⟨⟨true,rfl,by simp[h]⟩,hb⟩
theorem Mu (s : SR) (Ap Ac Av Af Aw Ar:Option Addr) (cp cc cv cf cw cr:Nat) (F:List Int) (V:List Raw) (R:List Int) (w:World) (hE:Env w) (hs:StIn w s Ap Ac Av) (hc3:s.cap.length≤300) (hF:InInt w Af F) (hFl:F.length≤140737488355328)
 (hV:InRow w Aw V) (hVl:V.length≤140737488355328) (hVs:∀k (h:k<V.length),V[k].2.1.size≤140737488355328∧V[k].2.2.size≤140737488355328) (hR:InInt w Ar R) (_hRl:R.length≤140737488355328) :
 Calls Tryz.prog 18 #[.agg #[.slice Ap s.ps.length cp,.slice Ac s.cap.length cc,.slice Av s.vot.length cv],.slice Af F.length cf,.agg #[.bool true,.slice Aw V.length cw,.slice Ar R.length cr]] w (ChkPost s F true V R w):=by
 have hno:=zh (fun(h:¬Chk s F true V R) (e:Ending) (w':World) (he:e=.returned (.bool false)) (hb:Below w.heap.size w w')=>ChkPost.no' h he hb);obtain⟨w0,hw0⟩:∃X,X=((w.alloc (.cells #[.slice Ap s.ps.length cp,.slice Ac s.cap.length cc,.slice Av s.vot.length cv] 25)).alloc (.cells #[.bool true,.slice Aw V.length cw,.slice Ar R.length cr] 29)):=⟨_,rfl⟩;have hB0:Hid (Below w.heap.size w w0):=by rw[hw0];exact((Below.refl _ w).alloc (Nat.le_refl _) _).alloc (by simp) _
 have hS0:Hid (Bk w0 w.heap.size 25 [.slice Ap s.ps.length cp,.slice Ac s.cap.length cc,.slice Av s.vot.length cv]):=by rw[hw0];exact(Bk.new w _ _).alloc _
 have hQ0:Hid (Bk w0 (w.heap.size+1) 29 [.bool true,.slice Aw V.length cw,.slice Ar R.length cr]):=by
  rw[hw0];have h:=Bk.new (w.alloc (.cells #[.slice Ap s.ps.length cp,.slice Ac s.cap.length cc,.slice Av s.vot.length cv] 25)) 29 [.bool true,.slice Aw V.length cw,.slice Ar R.length cr];rw[World.size_alloc]at h;exact h
 have kr:=zh (DX s Ap Ac Av Af cp cc cv cf F w0 (hE.below hB0.out) (hs.below hB0.out) hc3 (hF.below hB0.out) hFl);have hnp:=hs.np;replace hE:=zh hE;replace hs:=zh hs;replace hF:=zh hF;replace hV:=zh hV;replace hVs:=zh hVs;replace hR:=zh hR;have u0:=hS0.out.c0;have u1:=hS0.out.c1;have u2:=hS0.out.c2;have u9:=hS0.out.lt;have v0:=hQ0.out.c0;have v1:=hQ0.out.c1;have v2:=hQ0.out.c2;have v9:=hQ0.out.lt
 by_cases hg:soundB s=true∧listB s.ps.length F=true
 rotate_left
 · skip
   have hnc:Hid (¬Chk s F true V R):=fun h=>hg h.1;have kr2:Hid (Calls Tryz.prog 35 #[.agg #[.slice Ap s.ps.length cp,.slice Ac s.cap.length cc,.slice Av s.vot.length cv],.slice Af F.length cf] w0 fun e w'=>e=.returned (.tuple #[.slice none 0 0,.int .i64 1])∧Below w0.heap.size w0 w'):=kr.out.mono fun e w' h=>⟨by have h1:=h.1;rw[if_neg hg]at h1;exact h1,h.2⟩;replace hg:=zh hg;clear kr;refine(callsIn_wide (n:=3)).1 ?_;refine callsIn_of_wp_marks Tryz.func18 rfl trivial ?_ rfl;simp only[Tryz.ntmps18,List.size_toArray,List.length_cons,List.length_nil,Nat.reduceAdd,Nat.reduceSub,Array.replicate_succ,Array.replicate_zero,List.push_toArray,List.append_toArray,List.nil_append,List.cons_append];refine wpIn_wide.2 ?_;rw[hw0]at u0 u1 u2 u9 v0 v1 v2 v9;rw[hw0]at kr2;replace hw0:=zh hw0
   go_wp2_with fail
   go_step3
   go_wp2_with fail
   refine kr2.out.mono ?_;rintro e w1 ⟨rfl,hb⟩;rw[←hw0.out]at hb;have hB1:=zh (hB0.out.trans (hb.mono hB0.out.size));have hS1:=zh (hS0.out.below hb);have hQ1:=zh (hQ0.out.below hb);clear hb kr2 u0 u1 u2 u9 v0 v1 v2 v9;have u0:=hS1.out.c0;have u1:=hS1.out.c1;have u2:=hS1.out.c2;have u9:=hS1.out.lt;have v0:=hQ1.out.c0;have v1:=hQ1.out.c1;have v2:=hQ1.out.c2;have v9:=hQ1.out.lt;go_wp2
   (try rw[Exit.noGoto_ret])
   exact⟨_,results_tmp rfl _ _ _,hno.out hnc.out _ _ rfl hB1.out⟩
 · skip
   have kr2:Hid (Calls Tryz.prog 35 #[.agg #[.slice Ap s.ps.length cp,.slice Ac s.cap.length cc,.slice Av s.vot.length cv],.slice Af F.length cf] w0 fun e w'=>(∃b,e=.returned (.tuple #[.slice (some ⟨b,0,none⟩) s.ps.length s.ps.length,.int .i64 0]))∧Below w0.heap.size w0 w'):=kr.out.mono fun e w' h=>⟨by have h1:=h.1;rw[if_pos hg]at h1;obtain⟨b,e1,_⟩:=h1;exact⟨b,e1⟩,h.2⟩;replace hg:=zh hg;clear kr;refine(callsIn_wide (n:=3)).1 ?_;refine callsIn_of_wp_marks Tryz.func18 rfl trivial ?_ rfl;simp only[Tryz.ntmps18,List.size_toArray,List.length_cons,List.length_nil,Nat.reduceAdd,Nat.reduceSub,Array.replicate_succ,Array.replicate_zero,List.push_toArray,List.append_toArray,List.nil_append,List.cons_append];refine wpIn_wide.2 ?_;rw[hw0]at u0 u1 u2 u9 v0 v1 v2 v9;rw[hw0]at kr2;replace hw0:=zh hw0
   go_wp2_with fail
   go_step3
   go_wp2_with fail
   refine kr2.out.mono ?_;rintro e w1 ⟨⟨rb,rfl⟩,hb⟩;rw[←hw0.out]at hb;have hB1:=zh (hB0.out.trans (hb.mono hB0.out.size));have hS1:=zh (hS0.out.below hb);have hQ1:=zh (hQ0.out.below hb);clear hb kr2 u0 u1 u2 u9 v0 v1 v2 v9 hB0 hS0 hQ0 hw0;have u0:=hS1.out.c0;have u1:=hS1.out.c1;have u2:=hS1.out.c2;have u9:=hS1.out.lt;have v0:=hQ1.out.c0;have v1:=hQ1.out.c1;have v2:=hQ1.out.c2;have v9:=hQ1.out.lt;have ks:=CW s Ap Ac Av cp cc cv w1 (hE.out.below hB1.out) (hs.out.below hB1.out);rw[hg.out.1]at ks;replace ks:=zh ks
   go_wp2_with fail
   refine ks.out.mono ?_;rintro e w2 ⟨rfl,hb⟩;have hB2:=zh (hB1.out.trans (hb.mono hB1.out.size));have hS2:=zh (hS1.out.below hb);have hQ2:=zh (hQ1.out.below hb);clear hb ks u0 u1 u2 u9 v0 v1 v2 v9 hB1 hS1 hQ1;have v0:=hQ2.out.c0;have v1:=hQ2.out.c1;have v2:=hQ2.out.c2;have v9:=hQ2.out.lt
   by_cases hvl:V.length=s.ps.length
   rotate_left
   · skip
     have hnc:Hid (¬Chk s F true V R):=fun h=>hvl h.2.1;have m1:((V.length:Int) != (s.ps.length:Int))=true:=by rw[bne_iff_ne];omega
     have m2:(V.length != s.ps.length)=true:=by rw[bne_iff_ne];exact hvl
     replace hvl:=zh hvl;go_wp2
     (try rw[Exit.noGoto_ret])
     exact⟨_,results_tmp rfl _ _ _,hno.out hnc.out _ _ rfl hB2.out⟩
   · skip
     have m1:((V.length:Int) != (s.ps.length:Int))=false:=by rw[bne_eq_false_iff_eq];omega
     have m2:(V.length != s.ps.length)=false:=by rw[bne_eq_false_iff_eq];exact hvl
     by_cases hrl:R.length=0
     rotate_left
     · skip
       have hnc:Hid (¬Chk s F true V R):=fun h=>hrl h.2.2.1;have m3:((R.length:Int) != 0)=true:=by rw[bne_iff_ne];omega
       have m4:(R.length != 0)=true:=by rw[bne_iff_ne];exact hrl
       replace hrl:=zh hrl;replace hvl:=zh hvl;go_wp2
       (try rw[Exit.noGoto_ret])
       exact⟨_,results_tmp rfl _ _ _,hno.out hnc.out _ _ rfl hB2.out⟩
     · skip
       have m3:((R.length:Int) != 0)=false:=by rw[bne_eq_false_iff_eq];omega
       have m4:(R.length != 0)=false:=by rw[bne_eq_false_iff_eq];exact hrl
       have kf:=K0 Aw cw V w2 (hE.out.below hB2.out) (hV.out.below hB2.out (Nat.le_refl _)) hVl hVs.out;obtain⟨fb,hfb⟩:∃b,b=D1 V:=⟨_,rfl⟩;rw[←hfb]at kf;replace kf:=zh kf;replace hvl:=zh hvl;replace hrl:=zh hrl
       go_wp2_with fail
       refine kf.out.mono ?_;rintro e w3 ⟨rfl,hb⟩;have hB3:=zh (hB2.out.trans (hb.mono hB2.out.size));have hS3:=zh (hS2.out.below hb);have hQ3:=zh (hQ2.out.below hb);clear hb kf v0 v1 v2 v9 hB2 hS2 hQ2 m1 m2 m3 m4
       cases fb with
       | false =>
         have hnc:Hid (¬Chk s F true V R):=fun h=>by have h1:=h.2.2.2.1;rw[←hfb]at h1;cases h1
         replace hfb:=zh hfb;go_wp2
         (try rw[Exit.noGoto_ret])
         exact⟨_,results_tmp rfl _ _ _,hno.out hnc.out _ _ rfl hB3.out⟩
       | true =>
         have hfit:=DW hfb.symm;obtain⟨hVo,D,hfv⟩:=hfit;rw[hvl.out]at hVo;obtain⟨val,hval⟩:∃f,f=BT V:=⟨_,rfl⟩;rw[←hval]at hVo hfv;have hsh:=zh (fun p=>hfv.short p);have hls:=zh (fun p=>KM hg.out.1 hc3 hfv p);have hVi:Hid (InRow w Aw (AG s.ps.length val)):=by have h:=hV.out;rw[hVo]at h;exact h
         have hchk:Hid ((∀p,p<s.ps.length→D5 (Ad s.cap) (toN F) true val (rnk R) p)↔Chk s F true V R):=⟨fun h=>⟨hg.out,hvl.out,hrl.out,hfb.symm,by rw[←hval];exact h⟩,fun h=>by rw[hval];exact h.2.2.2.2⟩;have ksum:Hid (∀(p:Nat) W,Below w3.heap.size w3 W→Calls Tryz.prog 39 #[.int .i64 (p:Int),.pointer (some ⟨w.heap.size,0,none⟩),.pointer (some ⟨w.heap.size+1,0,none⟩)] W fun e w'=>e=.returned (.agg #[.bool (rq (Aj p val (Ad s.cap))).1,.string (rq (Aj p val (Ad s.cap))).2.1,.string (rq (Aj p val (Ad s.cap))).2.2])∧Below W.heap.size W w'):=fun p W h=>KL s Ap Ac Av Aw Ar cp cc cv cw cr R.length true w.heap.size (w.heap.size+1) p val W (hE.out.below (hB3.out.trans (h.mono hB3.out.size))) (hs.out.below (hB3.out.trans (h.mono hB3.out.size))).cap hg.out.1 hc3 (hVi.out.below (hB3.out.trans (h.mono hB3.out.size)) (Nat.le_refl _)) (fun q _=>hsh.out q) (fun i hi=>(JB hg.out.1 hfv hi).2.2.2) (fun pre hp=>Fw hg.out.1 hc3 hfv pre hp) (hS3.out.below h) (by have h2:=hQ3.out.below h;rw[hvl.out]at h2;exact h2);replace hVo:=zh hVo;replace hfv:=zh hfv;replace hval:=zh hval;replace hfb:=zh hfb;have v1:=hQ3.out.c1;have v9:=hQ3.out.lt
         go_wp2_with fail
         go_step3
         go_wp2_with fail
         rw[hvl.out];have hsd:=zh hg.out.1;have hnc47:s.cap.length≤140737488355328:=by omega
         have h1z:Hid (([.bool false,.string ⟨#[49]⟩,.string ⟨#[49]⟩]:List Value)=[.bool (rq (1)).1,.string (rq (1)).2.1,.string (rq (1)).2.2]):=zh (by kernel_rfl);obtain⟨ob,hob⟩:∃x,x=w3.heap.size:=⟨_,rfl⟩;obtain⟨w4,hw4⟩:∃X,X=w3.alloc (.cells #[.bool false,.string ⟨#[49]⟩,.string ⟨#[49]⟩] 40):=⟨_,rfl⟩;have hB4:Hid (Below w.heap.size w w4):=by rw[hw4];exact hB3.out.alloc hB3.out.size _
         have hB34:Hid (Below w3.heap.size w3 w4):=by rw[hw4];exact(Below.refl _ _).alloc (Nat.le_refl _) _
         have hO4:Hid (Bk w4 ob 40 [.bool (rq (1)).1,.string (rq (1)).2.1,.string (rq (1)).2.2]):=by rw[hw4,hob,←h1z.out];exact Bk.new _ _ _
         have hQ4:=zh (hQ3.out.below hB34.out);have hS4:=zh (hS3.out.below hB34.out);rw[←hw4,←hob];replace hw4:=zh hw4;replace hob:=zh hob;clear v1 v9 hQ3 hS3 hB3 h1z;have hI0:Hid (∀j,j<0→D5 (Ad s.cap) (toN F) true val (rnk R) j):=fun j h=>absurd h (Nat.not_lt_zero _);have hK0:Hid (Below w4.heap.size w4 w4):=Below.refl _ _;have hF0:Hid (∀y,y∈F→0≤y):=fun y hy=>by obtain⟨i,hi,rfl⟩:=List.getElem_of_mem hy;exact(Do hg.out.2 hi).1.1
         have hlist:Hid (∀p:Nat,p∈toN F↔(p:Int)∈F):=fun p=>by
          unfold toN;rw[List.mem_map];exact⟨fun⟨y,hy,e⟩=>by rw[←e,Int.toNat_of_nonneg (hF0.out y hy)];exact hy,fun h=>⟨(p:Int),h,by simp⟩⟩
         have s1:Hid (ShortQ 1):=⟨Nat.lt_of_lt_of_le (by decide:1<6000) (Nat.le_of_lt OC),Nat.lt_of_lt_of_le (by decide:1<6000) (Nat.le_of_lt OC)⟩
         go_loopw [62] (fun ix wr=>∃(p:Nat),p≤s.ps.length∧ix=.int .i64 (p:Int)∧Hid (∀j,j<p→D5 (Ad s.cap) (toN F) true val (rnk R) j)∧Hid (Below w4.heap.size w4 wr)) (fun ix _=>s.ps.length-(intOf ix).toNat)
         case atStart=>exact⟨0,Nat.zero_le _,rfl,hI0,hK0⟩
         case round =>
          obtain⟨p,hp,rfl,hI,hK⟩:=hrel;clear hI0 hK0;obtain⟨wz,rfl⟩:∃z,z=wr:=⟨_,rfl⟩;have hBz:=zh (hB4.out.trans (hK.out.mono hB4.out.size));have hKz:=zh (hB34.out.trans (hK.out.mono hB34.out.size))
          by_cases hpn:p<s.ps.length
          · skip
            have hI2:Hid (D5 (Ad s.cap) (toN F) true val (rnk R) p→∀j,j<p+1→D5 (Ad s.cap) (toN F) true val (rnk R) j):=fun h j hj=>by
             by_cases c:j=p
             · subst c;exact h
             · exact hI.out j (by omega)
            have hnp2:Hid (¬D5 (Ad s.cap) (toN F) true val (rnk R) p→¬Chk s F true V R):=fun h h2=>h (hchk.out.2 h2 p hpn);obtain⟨ab,ao,rfl,al,ac⟩:=(hVi.out.below hBz.out (Nat.le_refl _)) (by rw[Ah];omega);obtain⟨e0,e1,e2⟩:=ac p (by rw[Ah];omega);rw[B7]at e0 e1 e2;clear ac;have j0:(0:Int)≤(p:Int):=by omega
            have j1:(p:Int)<(s.ps.length:Int):=by omega
            obtain⟨w6,hw6⟩:∃X,X=((wz.alloc (.cells #[.int .i64 (p:Int)] 3)).alloc (.cells #[.bool (rq (val p)).1,.string (rq (val p)).2.1,.string (rq (val p)).2.2] 40)):=⟨_,rfl⟩;obtain⟨ib,hib⟩:∃x,x=wz.heap.size:=⟨_,rfl⟩;have hKz6:Hid (Below wz.heap.size wz w6):=by rw[hw6];exact((Below.refl _ wz).alloc (Nat.le_refl _) _).alloc (by simp) _
            have hP6:Hid (Bk w6 ib 3 [.int .i64 (p:Int)]):=by rw[hw6,hib];exact(Bk.new wz _ _).alloc _
            have hV6:Hid (Bk w6 (ib+1) 40 [.bool (rq (val p)).1,.string (rq (val p)).2.1,.string (rq (val p)).2.2]):=by
             rw[hw6,hib];have h:=Bk.new (wz.alloc (.cells #[.int .i64 (p:Int)] 3)) 40 [.bool (rq (val p)).1,.string (rq (val p)).2.1,.string (rq (val p)).2.2];rw[World.size_alloc]at h;exact h
            have hB6:=zh (hBz.out.trans (hKz6.out.mono hBz.out.size));have hK46:=zh (hK.out.trans (hKz6.out.mono hK.out.size));have hK36:=zh (hKz.out.trans (hKz6.out.mono hKz.out.size));have hO6:=zh (hO4.out.below hK46.out);have hQ6:=zh (hQ4.out.below hK46.out);have kc:=FN Af cf F (p:Int) w6 (hF.out.below hB6.out) hFl;have hli:=hlist.out p;obtain⟨mb,hmb⟩:∃b,b=decide ((p:Int)∈F):=⟨_,rfl⟩;rw[←hmb]at kc;rw[hw6]at kc;replace kc:=zh kc;have hmF:Hid (mb=true↔p∈toN F):=by rw[hmb,decide_eq_true_iff];exact hli.symm
            replace hmb:=zh hmb;replace hw6:=zh hw6;replace hib:=zh hib;replace hli:=zh hli
            go_wp2_with fail
            refine kc.out.mono ?_;rintro e wq ⟨rfl,hq⟩;rw[←hw6.out]at hq;obtain rfl:=hq
            (try rw[←hib.out])
            clear kc e0 e1 e2 al hI hKz hBz hK hw6 hib;have o0:=hO6.out.c0;have o1:=hO6.out.c1;have o2:=hO6.out.c2;have o9:=hO6.out.lt;have x0:=hV6.out.c0;have x1:=hV6.out.c1;have x2:=hV6.out.c2;have x9:=hV6.out.lt;have y0:=hP6.out.c0;have y9:=hP6.out.lt;have f0:=hQ6.out.c0;have f1:=hQ6.out.c1;have f2:=hQ6.out.c2;have f9:=hQ6.out.lt;have hE6:Hid (∀W,Below wq.heap.size wq W→Env W):=fun W h=>hE.out.below (hB6.out.trans (h.mono hB6.out.size));have ks6:Hid (∀W,Below wq.heap.size wq W→Calls Tryz.prog 39 #[.int .i64 (p:Int),.pointer (some ⟨w.heap.size,0,none⟩),.pointer (some ⟨w.heap.size+1,0,none⟩)] W fun e w'=>e=.returned (.agg #[.bool (rq (Aj p val (Ad s.cap))).1,.string (rq (Aj p val (Ad s.cap))).2.1,.string (rq (Aj p val (Ad s.cap))).2.2])∧Below W.heap.size W w'):=fun W h=>ksum.out p W (hK36.out.trans (h.mono hK36.out.size));have hsp:=zh (hsh.out p);have hlp:=zh (hls.out p);obtain⟨sm,hsm⟩:∃q,q=Aj p val (Ad s.cap):=⟨_,rfl⟩;rw[←hsm]at ks6 hlp;replace hsm:=zh hsm;obtain⟨v,hv⟩:∃q,q=val p:=⟨_,rfl⟩;rw[←hv]at x0 x1 x2 hsp;replace hv:=zh hv;have HS:Hid (∀W,Below wq.heap.size wq W→(fun W=>W.cell? ⟨ob,0,none⟩=some (.bool (rq (1)).1)∧W.cell? ⟨ob,1,none⟩=some (.string (rq (1)).2.1)∧W.cell? ⟨ob,2,none⟩=some (.string (rq (1)).2.2)∧W.cell? ⟨ib+1,0,none⟩=some (.bool (rq (v)).1)∧W.cell? ⟨ib+1,1,none⟩=some (.string (rq (v)).2.1)∧W.cell? ⟨ib+1,2,none⟩=some (.string (rq (v)).2.2)∧W.cell? ⟨ib,0,none⟩=some (.int .i64 (p:Int))) W):=fun W h=>⟨(h.cell (p:=⟨ob,0,none⟩) o9).trans o0,(h.cell (p:=⟨ob,1,none⟩) o9).trans o1,(h.cell (p:=⟨ob,2,none⟩) o9).trans o2,(h.cell (p:=⟨ib+1,0,none⟩) x9).trans x0,(h.cell (p:=⟨ib+1,1,none⟩) x9).trans x1,(h.cell (p:=⟨ib+1,2,none⟩) x9).trans x2,(h.cell (p:=⟨ib,0,none⟩) y9).trans y0⟩
            go_wp2_with fail
            clear o0 o1 o2 o9 x0 x1 x2 x9 y0 y9 f0 f1 f2 f9
            cases mb with
            | true =>
              have hm:=hmF.out.1 rfl
              by_cases h1v:1≤v
              rotate_left
              · skip
                have kl:Hid (∀W,Env W→Calls Tryz.prog 43 #[.agg #[.bool (rq (1)).1,.string (rq (1)).2.1,.string (rq (1)).2.2],.agg #[.bool (rq (v)).1,.string (rq (v)).2.1,.string (rq (v)).2.2]] W fun e w'=>e=.returned (.bool false)∧Below W.heap.size W w'):=fun W hW=>by have h:=BM (1) (v) s1.out hsp.out W hW;rw[decide_eq_false h1v]at h;exact h
                have hnc:Hid (¬Chk s F true V R):=hnp2.out fun h=>h1v (by rw[hv.out];exact(h.1 rfl).1 hm);replace h1v:=zh h1v;replace hm:=zh hm;refine AD (by kernel_rfl) (by kernel_rfl) ?_
                repeat (
                 with_reducible refine wpQuiet_step (fun K hK=>?_)
                 first
                  | (refine AY (by rfl) ?_;refine hK _ ?_;clear hK K;(try simp only[Act.put,List.setIfInBounds_toArray,List.set_cons_zero,List.set_cons_succ]))
                  | (refine AZ (by rfl) ?_
                     go_simp;apply Exists.intro;refine⟨fun W hW=>?_,hK _ ?_⟩
                     first
                      | (with_reducible exact A0 hW (kl.out W (hE6.out W hW)))
                      | (with_reducible exact A0 hW (ks6.out W hW))
                      | (obtain⟨q1,q2,q3,q4,q5,q6,q7⟩:=HS.out W hW;go_simp<;>with_reducible rfl)
                     clear hK K))
                refine wpQuiet_nil ?_;intro wf hbz;have hBf:=hB6.out.trans (hbz.mono hB6.out.size);replace hBf:=zh hBf;clear hbz HS hE6 ks6;go_wp2
                (try rw[Exit.noGoto_ret])
                exact⟨_,results_tmp rfl _ _ _,hno.out hnc.out _ _ rfl hBf.out⟩
              · skip
                have kl:Hid (∀W,Env W→Calls Tryz.prog 43 #[.agg #[.bool (rq (1)).1,.string (rq (1)).2.1,.string (rq (1)).2.2],.agg #[.bool (rq (v)).1,.string (rq (v)).2.1,.string (rq (v)).2.2]] W fun e w'=>e=.returned (.bool true)∧Below W.heap.size W w'):=fun W hW=>by have h:=BM (1) (v) s1.out hsp.out W hW;rw[decide_eq_true h1v]at h;exact h
                have hI3:=zh (hI2.out ⟨fun _=>⟨fun _=>by rw[←hv.out];exact h1v,fun h=>absurd hm h⟩,fun h=>(by cases h)⟩);replace h1v:=zh h1v;replace hm:=zh hm;refine AD (by kernel_rfl) (by kernel_rfl) ?_
                repeat (
                 with_reducible refine wpQuiet_step (fun K hK=>?_)
                 first
                  | (refine AY (by rfl) ?_;refine hK _ ?_;clear hK K;(try simp only[Act.put,List.setIfInBounds_toArray,List.set_cons_zero,List.set_cons_succ]))
                  | (refine AZ (by rfl) ?_
                     go_simp;apply Exists.intro;refine⟨fun W hW=>?_,hK _ ?_⟩
                     first
                      | (with_reducible exact A0 hW (kl.out W (hE6.out W hW)))
                      | (with_reducible exact A0 hW (ks6.out W hW))
                      | (obtain⟨q1,q2,q3,q4,q5,q6,q7⟩:=HS.out W hW;go_simp<;>with_reducible rfl)
                     clear hK K))
                refine wpQuiet_nil ?_;intro wf hbz;have hKf:Hid (Below w4.heap.size w4 wf):=hK46.out.trans (hbz.mono hK46.out.size);clear hbz HS hE6 ks6;go_wp2;exact⟨⟨p+1,by omega,by go_num,hI3,hKf⟩,by simp only[intOf];omega⟩
            | false =>
              have hm:p∉toN F:=fun h=>by have:=hmF.out.2 h;cases this
              by_cases h1v:sm≤v
              rotate_left
              · skip
                have kl:Hid (∀W,Env W→Calls Tryz.prog 43 #[.agg #[.bool (rq (sm)).1,.string (rq (sm)).2.1,.string (rq (sm)).2.2],.agg #[.bool (rq (v)).1,.string (rq (v)).2.1,.string (rq (v)).2.2]] W fun e w'=>e=.returned (.bool false)∧Below W.heap.size W w'):=fun W hW=>by have h:=BM (sm) (v) hlp.out hsp.out W hW;rw[decide_eq_false h1v]at h;exact h
                have hnc:Hid (¬Chk s F true V R):=hnp2.out fun h=>h1v (by rw[hv.out,hsm.out];exact(h.1 rfl).2 hm);replace h1v:=zh h1v;replace hm:=zh hm;refine AD (by kernel_rfl) (by kernel_rfl) ?_
                repeat (
                 with_reducible refine wpQuiet_step (fun K hK=>?_)
                 first
                  | (refine AY (by rfl) ?_;refine hK _ ?_;clear hK K;(try simp only[Act.put,List.setIfInBounds_toArray,List.set_cons_zero,List.set_cons_succ]))
                  | (refine AZ (by rfl) ?_
                     go_simp;apply Exists.intro;refine⟨fun W hW=>?_,hK _ ?_⟩
                     first
                      | (with_reducible exact A0 hW (kl.out W (hE6.out W hW)))
                      | (with_reducible exact A0 hW (ks6.out W hW))
                      | (obtain⟨q1,q2,q3,q4,q5,q6,q7⟩:=HS.out W hW;go_simp<;>with_reducible rfl)
                     clear hK K))
                refine wpQuiet_nil ?_;intro wf hbz;have hBf:=hB6.out.trans (hbz.mono hB6.out.size);replace hBf:=zh hBf;clear hbz HS hE6 ks6;go_wp2
                (try rw[Exit.noGoto_ret])
                exact⟨_,results_tmp rfl _ _ _,hno.out hnc.out _ _ rfl hBf.out⟩
              · skip
                have kl:Hid (∀W,Env W→Calls Tryz.prog 43 #[.agg #[.bool (rq (sm)).1,.string (rq (sm)).2.1,.string (rq (sm)).2.2],.agg #[.bool (rq (v)).1,.string (rq (v)).2.1,.string (rq (v)).2.2]] W fun e w'=>e=.returned (.bool true)∧Below W.heap.size W w'):=fun W hW=>by have h:=BM (sm) (v) hlp.out hsp.out W hW;rw[decide_eq_true h1v]at h;exact h
                have hI3:=zh (hI2.out ⟨fun _=>⟨fun h=>absurd h hm,fun _=>by rw[←hv.out,←hsm.out];exact h1v⟩,fun h=>(by cases h)⟩);replace h1v:=zh h1v;replace hm:=zh hm;refine AD (by kernel_rfl) (by kernel_rfl) ?_
                repeat (
                 with_reducible refine wpQuiet_step (fun K hK=>?_)
                 first
                  | (refine AY (by rfl) ?_;refine hK _ ?_;clear hK K;(try simp only[Act.put,List.setIfInBounds_toArray,List.set_cons_zero,List.set_cons_succ]))
                  | (refine AZ (by rfl) ?_
                     go_simp;apply Exists.intro;refine⟨fun W hW=>?_,hK _ ?_⟩
                     first
                      | (with_reducible exact A0 hW (kl.out W (hE6.out W hW)))
                      | (with_reducible exact A0 hW (ks6.out W hW))
                      | (obtain⟨q1,q2,q3,q4,q5,q6,q7⟩:=HS.out W hW;go_simp<;>with_reducible rfl)
                     clear hK K))
                refine wpQuiet_nil ?_;intro wf hbz;have hKf:Hid (Below w4.heap.size w4 wf):=hK46.out.trans (hbz.mono hK46.out.size);clear hbz HS hE6 ks6;go_wp2;exact⟨⟨p+1,by omega,by go_num,hI3,hKf⟩,by simp only[intOf];omega⟩
          · skip
            obtain rfl:p=s.ps.length:=by omega
            have hyes:=zh (hchk.out.1 hI.out);go_wp2
            (try rw[Exit.noGoto_ret])
            exact⟨_,results_tmp rfl _ _ _,ChkPost.yes hyes.out rfl hBz.out⟩
theorem KP (s:SR) (Ap Ac Av Af Aw Ar:Option Addr) (cp cc cv cf cw cr:Nat) (F:List Int) (V:List Raw) (R:List Int) (w:World) (hE:Env w) (hs:StIn w s Ap Ac Av) (hc3:s.cap.length≤300) (hF:InInt w Af F) (hFl:F.length≤140737488355328)
 (hV:InRow w Aw V) (hVl:V.length≤140737488355328) (hVs:∀k (h:k<V.length),V[k].2.1.size≤140737488355328∧V[k].2.2.size≤140737488355328) (hR:InInt w Ar R) (hRl:R.length≤140737488355328) :
 Calls Tryz.prog 18 #[.agg #[.slice Ap s.ps.length cp,.slice Ac s.cap.length cc,.slice Av s.vot.length cv],.slice Af F.length cf,.agg #[.bool false,.slice Aw V.length cw,.slice Ar R.length cr]] w (ChkPost s F false V R w):=by
 have hno:=zh (fun(h:¬Chk s F false V R) (e:Ending) (w':World) (he:e=.returned (.bool false)) (hb:Below w.heap.size w w')=>ChkPost.no' h he hb);obtain⟨w0,hw0⟩:∃X,X=((w.alloc (.cells #[.slice Ap s.ps.length cp,.slice Ac s.cap.length cc,.slice Av s.vot.length cv] 25)).alloc (.cells #[.bool false,.slice Aw V.length cw,.slice Ar R.length cr] 29)):=⟨_,rfl⟩;have hB0:Hid (Below w.heap.size w w0):=by rw[hw0];exact((Below.refl _ w).alloc (Nat.le_refl _) _).alloc (by simp) _
 have hS0:Hid (Bk w0 w.heap.size 25 [.slice Ap s.ps.length cp,.slice Ac s.cap.length cc,.slice Av s.vot.length cv]):=by rw[hw0];exact(Bk.new w _ _).alloc _
 have hQ0:Hid (Bk w0 (w.heap.size+1) 29 [.bool false,.slice Aw V.length cw,.slice Ar R.length cr]):=by
  rw[hw0];have h:=Bk.new (w.alloc (.cells #[.slice Ap s.ps.length cp,.slice Ac s.cap.length cc,.slice Av s.vot.length cv] 25)) 29 [.bool false,.slice Aw V.length cw,.slice Ar R.length cr];rw[World.size_alloc]at h;exact h
 have kr:=zh (DX s Ap Ac Av Af cp cc cv cf F w0 (hE.below hB0.out) (hs.below hB0.out) hc3 (hF.below hB0.out) hFl);have hnp:=hs.np;replace hE:=zh hE;replace hs:=zh hs;replace hF:=zh hF;replace hV:=zh hV;replace hVs:=zh hVs;replace hR:=zh hR;have u0:=hS0.out.c0;have u1:=hS0.out.c1;have u2:=hS0.out.c2;have u9:=hS0.out.lt;have v0:=hQ0.out.c0;have v1:=hQ0.out.c1;have v2:=hQ0.out.c2;have v9:=hQ0.out.lt
 by_cases hg:soundB s=true∧listB s.ps.length F=true
 rotate_left
 · skip
   have hnc:Hid (¬Chk s F false V R):=fun h=>hg h.1;have kr2:Hid (Calls Tryz.prog 35 #[.agg #[.slice Ap s.ps.length cp,.slice Ac s.cap.length cc,.slice Av s.vot.length cv],.slice Af F.length cf] w0 fun e w'=>e=.returned (.tuple #[.slice none 0 0,.int .i64 1])∧Below w0.heap.size w0 w'):=kr.out.mono fun e w' h=>⟨by have h1:=h.1;rw[if_neg hg]at h1;exact h1,h.2⟩;replace hg:=zh hg;clear kr;refine(callsIn_wide (n:=3)).1 ?_;refine callsIn_of_wp_marks Tryz.func18 rfl trivial ?_ rfl;simp only[Tryz.ntmps18,List.size_toArray,List.length_cons,List.length_nil,Nat.reduceAdd,Nat.reduceSub,Array.replicate_succ,Array.replicate_zero,List.push_toArray,List.append_toArray,List.nil_append,List.cons_append];refine wpIn_wide.2 ?_;rw[hw0]at u0 u1 u2 u9 v0 v1 v2 v9;rw[hw0]at kr2;replace hw0:=zh hw0
   go_wp2_with fail
   go_step3
   go_wp2_with fail
   refine kr2.out.mono ?_;rintro e w1 ⟨rfl,hb⟩;rw[←hw0.out]at hb;have hB1:=zh (hB0.out.trans (hb.mono hB0.out.size));have hS1:=zh (hS0.out.below hb);have hQ1:=zh (hQ0.out.below hb);clear hb kr2 u0 u1 u2 u9 v0 v1 v2 v9;have u0:=hS1.out.c0;have u1:=hS1.out.c1;have u2:=hS1.out.c2;have u9:=hS1.out.lt;have v0:=hQ1.out.c0;have v1:=hQ1.out.c1;have v2:=hQ1.out.c2;have v9:=hQ1.out.lt;go_wp2
   (try rw[Exit.noGoto_ret])
   exact⟨_,results_tmp rfl _ _ _,hno.out hnc.out _ _ rfl hB1.out⟩
 · skip
   have kr2:Hid (Calls Tryz.prog 35 #[.agg #[.slice Ap s.ps.length cp,.slice Ac s.cap.length cc,.slice Av s.vot.length cv],.slice Af F.length cf] w0 fun e w'=>(∃b,e=.returned (.tuple #[.slice (some ⟨b,0,none⟩) s.ps.length s.ps.length,.int .i64 0]))∧Below w0.heap.size w0 w'):=kr.out.mono fun e w' h=>⟨by have h1:=h.1;rw[if_pos hg]at h1;obtain⟨b,e1,_⟩:=h1;exact⟨b,e1⟩,h.2⟩;replace hg:=zh hg;clear kr;refine(callsIn_wide (n:=3)).1 ?_;refine callsIn_of_wp_marks Tryz.func18 rfl trivial ?_ rfl;simp only[Tryz.ntmps18,List.size_toArray,List.length_cons,List.length_nil,Nat.reduceAdd,Nat.reduceSub,Array.replicate_succ,Array.replicate_zero,List.push_toArray,List.append_toArray,List.nil_append,List.cons_append];refine wpIn_wide.2 ?_;rw[hw0]at u0 u1 u2 u9 v0 v1 v2 v9;rw[hw0]at kr2;replace hw0:=zh hw0
   go_wp2_with fail
   go_step3
   go_wp2_with fail
   refine kr2.out.mono ?_;rintro e w1 ⟨⟨rb,rfl⟩,hb⟩;rw[←hw0.out]at hb;have hB1:=zh (hB0.out.trans (hb.mono hB0.out.size));have hS1:=zh (hS0.out.below hb);have hQ1:=zh (hQ0.out.below hb);clear hb kr2 u0 u1 u2 u9 v0 v1 v2 v9 hB0 hS0 hQ0 hw0;have u0:=hS1.out.c0;have u1:=hS1.out.c1;have u2:=hS1.out.c2;have u9:=hS1.out.lt;have v0:=hQ1.out.c0;have v1:=hQ1.out.c1;have v2:=hQ1.out.c2;have v9:=hQ1.out.lt;have ks:=CW s Ap Ac Av cp cc cv w1 (hE.out.below hB1.out) (hs.out.below hB1.out);rw[hg.out.1]at ks;replace ks:=zh ks
   go_wp2_with fail
   refine ks.out.mono ?_;rintro e w2 ⟨rfl,hb⟩;have hB2:=zh (hB1.out.trans (hb.mono hB1.out.size));have hS2:=zh (hS1.out.below hb);have hQ2:=zh (hQ1.out.below hb);clear hb ks u0 u1 u2 u9 v0 v1 v2 v9 hB1 hS1 hQ1;have v0:=hQ2.out.c0;have v1:=hQ2.out.c1;have v2:=hQ2.out.c2;have v9:=hQ2.out.lt
   by_cases hvl:V.length=s.ps.length
   rotate_left
   · skip
     have hnc:Hid (¬Chk s F false V R):=fun h=>hvl h.2.1;have m1:((V.length:Int) != (s.ps.length:Int))=true:=by rw[bne_iff_ne];omega
     have m2:(V.length != s.ps.length)=true:=by rw[bne_iff_ne];exact hvl
     replace hvl:=zh hvl;go_wp2
     (try rw[Exit.noGoto_ret])
     exact⟨_,results_tmp rfl _ _ _,hno.out hnc.out _ _ rfl hB2.out⟩
   · skip
     have m1:((V.length:Int) != (s.ps.length:Int))=false:=by rw[bne_eq_false_iff_eq];omega
     have m2:(V.length != s.ps.length)=false:=by rw[bne_eq_false_iff_eq];exact hvl
     by_cases hrl:R.length=s.ps.length
     rotate_left
     · skip
       have hnc:Hid (¬Chk s F false V R):=fun h=>hrl h.2.2.1;have m3:((R.length:Int) != (s.ps.length:Int))=true:=by rw[bne_iff_ne];omega
       have m4:(R.length != s.ps.length)=true:=by rw[bne_iff_ne];exact hrl
       replace hrl:=zh hrl;replace hvl:=zh hvl;go_wp2
       (try rw[Exit.noGoto_ret])
       exact⟨_,results_tmp rfl _ _ _,hno.out hnc.out _ _ rfl hB2.out⟩
     · skip
       have m3:((R.length:Int) != (s.ps.length:Int))=false:=by rw[bne_eq_false_iff_eq];omega
       have m4:(R.length != s.ps.length)=false:=by rw[bne_eq_false_iff_eq];exact hrl
       have kf:=K0 Aw cw V w2 (hE.out.below hB2.out) (hV.out.below hB2.out (Nat.le_refl _)) hVl hVs.out;obtain⟨fb,hfb⟩:∃b,b=D1 V:=⟨_,rfl⟩;rw[←hfb]at kf;replace kf:=zh kf;replace hvl:=zh hvl;replace hrl:=zh hrl
       go_wp2_with fail
       refine kf.out.mono ?_;rintro e w3 ⟨rfl,hb⟩;have hB3:=zh (hB2.out.trans (hb.mono hB2.out.size));have hS3:=zh (hS2.out.below hb);have hQ3:=zh (hQ2.out.below hb);clear hb kf v0 v1 v2 v9 hB2 hS2 hQ2 m1 m2 m3 m4
       cases fb with
       | false =>
         have hnc:Hid (¬Chk s F false V R):=fun h=>by have h1:=h.2.2.2.1;rw[←hfb]at h1;cases h1
         replace hfb:=zh hfb;go_wp2
         (try rw[Exit.noGoto_ret])
         exact⟨_,results_tmp rfl _ _ _,hno.out hnc.out _ _ rfl hB3.out⟩
       | true =>
         have hfit:=DW hfb.symm;obtain⟨hVo,D,hfv⟩:=hfit;rw[hvl.out]at hVo;obtain⟨val,hval⟩:∃f,f=BT V:=⟨_,rfl⟩;rw[←hval]at hVo hfv;have hsh:=zh (fun p=>hfv.short p);have hls:=zh (fun p=>KM hg.out.1 hc3 hfv p);have hVi:Hid (InRow w Aw (AG s.ps.length val)):=by have h:=hV.out;rw[hVo]at h;exact h
         have hchk:Hid ((∀p,p<s.ps.length→D5 (Ad s.cap) (toN F) false val (rnk R) p)↔Chk s F false V R):=⟨fun h=>⟨hg.out,hvl.out,hrl.out,hfb.symm,by rw[←hval];exact h⟩,fun h=>by rw[hval];exact h.2.2.2.2⟩;have ksum:Hid (∀(p:Nat) W,Below w3.heap.size w3 W→Calls Tryz.prog 39 #[.int .i64 (p:Int),.pointer (some ⟨w.heap.size,0,none⟩),.pointer (some ⟨w.heap.size+1,0,none⟩)] W fun e w'=>e=.returned (.agg #[.bool (rq (Aj p val (Ad s.cap))).1,.string (rq (Aj p val (Ad s.cap))).2.1,.string (rq (Aj p val (Ad s.cap))).2.2])∧Below W.heap.size W w'):=fun p W h=>KL s Ap Ac Av Aw Ar cp cc cv cw cr R.length false w.heap.size (w.heap.size+1) p val W (hE.out.below (hB3.out.trans (h.mono hB3.out.size))) (hs.out.below (hB3.out.trans (h.mono hB3.out.size))).cap hg.out.1 hc3 (hVi.out.below (hB3.out.trans (h.mono hB3.out.size)) (Nat.le_refl _)) (fun q _=>hsh.out q) (fun i hi=>(JB hg.out.1 hfv hi).2.2.2) (fun pre hp=>Fw hg.out.1 hc3 hfv pre hp) (hS3.out.below h) (by have h2:=hQ3.out.below h;rw[hvl.out]at h2;exact h2);replace hVo:=zh hVo;replace hfv:=zh hfv;replace hval:=zh hval;replace hfb:=zh hfb;have v1:=hQ3.out.c1;have v9:=hQ3.out.lt
         go_wp2_with fail
         go_step3
         go_wp2_with fail
         rw[hvl.out];have hsd:=zh hg.out.1;have hnc47:s.cap.length≤140737488355328:=by omega
         have h1z:Hid (([.bool false,.string ⟨#[49]⟩,.string ⟨#[49]⟩]:List Value)=[.bool (rq (1)).1,.string (rq (1)).2.1,.string (rq (1)).2.2]):=zh (by kernel_rfl);obtain⟨ob,hob⟩:∃x,x=w3.heap.size:=⟨_,rfl⟩;obtain⟨w4,hw4⟩:∃X,X=w3.alloc (.cells #[.bool false,.string ⟨#[49]⟩,.string ⟨#[49]⟩] 40):=⟨_,rfl⟩;have hB4:Hid (Below w.heap.size w w4):=by rw[hw4];exact hB3.out.alloc hB3.out.size _
         have hB34:Hid (Below w3.heap.size w3 w4):=by rw[hw4];exact(Below.refl _ _).alloc (Nat.le_refl _) _
         have hO4:Hid (Bk w4 ob 40 [.bool (rq (1)).1,.string (rq (1)).2.1,.string (rq (1)).2.2]):=by rw[hw4,hob,←h1z.out];exact Bk.new _ _ _
         have hQ4:=zh (hQ3.out.below hB34.out);have hS4:=zh (hS3.out.below hB34.out);rw[←hw4,←hob];replace hw4:=zh hw4;replace hob:=zh hob;clear v1 v9 hQ3 hS3 hB3 h1z;have hI0:Hid (∀j,j<0→D5 (Ad s.cap) (toN F) false val (rnk R) j):=fun j h=>absurd h (Nat.not_lt_zero _);have hK0:Hid (Below w4.heap.size w4 w4):=Below.refl _ _;have hF0:Hid (∀y,y∈F→0≤y):=fun y hy=>by obtain⟨i,hi,rfl⟩:=List.getElem_of_mem hy;exact(Do hg.out.2 hi).1.1
         have hlist:Hid (∀p:Nat,p∈toN F↔(p:Int)∈F):=fun p=>by
          unfold toN;rw[List.mem_map];exact⟨fun⟨y,hy,e⟩=>by rw[←e,Int.toNat_of_nonneg (hF0.out y hy)];exact hy,fun h=>⟨(p:Int),h,by simp⟩⟩
         have s1:Hid (ShortQ 1):=⟨Nat.lt_of_lt_of_le (by decide:1<6000) (Nat.le_of_lt OC),Nat.lt_of_lt_of_le (by decide:1<6000) (Nat.le_of_lt OC)⟩;have hM0:Hid (Mk w.heap.size [] w4):=Mk.nil;refine wp_loop (fun(a':Act) (wr:World)=>∃(p:Nat) (Ds:List Nat) (u13 u14 u15 u16 u17 u18 u19 u20 u21 u22 u23 u24 u25 u26 u27 u28 u29 u30 u31 u32 u33 u34 u35 u36 u37 u38 u39 u40 u41 u42 u43 u44 u45 u46 u47 u48 u49 u50 u51 u52 u53 u54 u55 u56 u57 u58 u59 u63 u64 u65 u66 u67 u68 u69 u70 u71 u72 u73 u74 u75 u76 u77 u78 u79 u80 u81 u82 u83 u84 u85 u86 u87 u88 u89 u90 u91 u92 u93 u94 u95 u96 u97 u98 u99 u100 u101 u102 u103 u104 u105 u106 u107 u108 u109 u110 u111 u112 u113 u114 u115 u116 u117 u118 u119 u120 u121 u122 u123 u124 u125 u126 u127 u128 u129 u130 u131 u132 u133 u134 u135 u136 u137 u138 u139 u140 u141 u142 u143 u144 u145 u146 u147 u148 u149 u150 u151 u152 u153 u154 u155 u156 u157 u158 u159 u160 u161:Value),p≤s.ps.length∧Hid (∀j,j<p→D5 (Ad s.cap) (toN F) false val (rnk R) j)∧Hid (Below w4.heap.size w4 wr)∧Hid (Mk w.heap.size Ds wr)∧a'={ tmps:=#[.agg #[.slice Ap s.ps.length cp,.slice Ac s.cap.length cc,.slice Av s.vot.length cv],.slice Af F.length cf,.agg #[.bool false,.slice Aw s.ps.length cw,.slice Ar R.length cr],.pointer (some ⟨w.heap.size,0,none⟩),undef,.pointer (some ⟨w.heap.size+1,0,none⟩),.bool false,.int .i64 (s.ps.length:Int),.int .i64 (s.ps.length:Int),.slice (some ⟨rb,0,none⟩) s.ps.length s.ps.length,.int .i64 0,.pointer (some ⟨ob,0,none⟩),.func (.func 39) #[] #[.pointer (some ⟨w.heap.size,0,none⟩),.pointer (some ⟨w.heap.size+1,0,none⟩)],u13,u14,u15,u16,u17,u18,u19,u20,u21,u22,u23,u24,u25,u26,u27,u28,u29,u30,u31,u32,u33,u34,u35,u36,u37,u38,u39,u40,u41,u42,u43,u44,u45,u46,u47,u48,u49,u50,u51,u52,u53,u54,u55,u56,u57,u58,u59,.slice Aw s.ps.length cw,.int .i64 (s.ps.length:Int),.int .i64 (p:Int),u63,u64,u65,u66,u67,u68,u69,u70,u71,u72,u73,u74,u75,u76,u77,u78,u79,u80,u81,u82,u83,u84,u85,u86,u87,u88,u89,u90,u91,u92,u93,u94,u95,u96,u97,u98,u99,u100,u101,u102,u103,u104,u105,u106,u107,u108,u109,u110,u111,u112,u113,u114,u115,u116,u117,u118,u119,u120,u121,u122,u123,u124,u125,u126,u127,u128,u129,u130,u131,u132,u133,u134,u135,u136,u137,u138,u139,u140,u141,u142,u143,u144,u145,u146,u147,u148,u149,u150,u151,u152,u153,u154,u155,u156,u157,u158,u159,u160,u161],defers:=mkD Ds }) (fun a' _=>s.ps.length-(intOf (a'.tmps.getD 62 undef)).toNat) ?_ ?_
         · refine⟨0,[],?_⟩
           (repeat apply Exists.intro)
           refine⟨?_,?_,?_,?_,rfl⟩
           all_goals first | exact Nat.zero_le _ | exact hI0 | exact hK0 | exact hM0
         · intro a0 wr hinv;obtain⟨p,hinv⟩:=hinv;obtain⟨Ds,hinv⟩:=hinv;obtain⟨u13,hinv⟩:=hinv;obtain⟨u14,hinv⟩:=hinv;obtain⟨u15,hinv⟩:=hinv;obtain⟨u16,hinv⟩:=hinv;obtain⟨u17,hinv⟩:=hinv;obtain⟨u18,hinv⟩:=hinv;obtain⟨u19,hinv⟩:=hinv;obtain⟨u20,hinv⟩:=hinv;obtain⟨u21,hinv⟩:=hinv;obtain⟨u22,hinv⟩:=hinv;obtain⟨u23,hinv⟩:=hinv;obtain⟨u24,hinv⟩:=hinv;obtain⟨u25,hinv⟩:=hinv;obtain⟨u26,hinv⟩:=hinv;obtain⟨u27,hinv⟩:=hinv;obtain⟨u28,hinv⟩:=hinv;obtain⟨u29,hinv⟩:=hinv;obtain⟨u30,hinv⟩:=hinv;obtain⟨u31,hinv⟩:=hinv;obtain⟨u32,hinv⟩:=hinv;obtain⟨u33,hinv⟩:=hinv;obtain⟨u34,hinv⟩:=hinv;obtain⟨u35,hinv⟩:=hinv;obtain⟨u36,hinv⟩:=hinv;obtain⟨u37,hinv⟩:=hinv;obtain⟨u38,hinv⟩:=hinv;obtain⟨u39,hinv⟩:=hinv;obtain⟨u40,hinv⟩:=hinv;obtain⟨u41,hinv⟩:=hinv;obtain⟨u42,hinv⟩:=hinv;obtain⟨u43,hinv⟩:=hinv;obtain⟨u44,hinv⟩:=hinv;obtain⟨u45,hinv⟩:=hinv;obtain⟨u46,hinv⟩:=hinv;obtain⟨u47,hinv⟩:=hinv;obtain⟨u48,hinv⟩:=hinv;obtain⟨u49,hinv⟩:=hinv;obtain⟨u50,hinv⟩:=hinv;obtain⟨u51,hinv⟩:=hinv;obtain⟨u52,hinv⟩:=hinv;obtain⟨u53,hinv⟩:=hinv;obtain⟨u54,hinv⟩:=hinv;obtain⟨u55,hinv⟩:=hinv;obtain⟨u56,hinv⟩:=hinv;obtain⟨u57,hinv⟩:=hinv;obtain⟨u58,hinv⟩:=hinv;obtain⟨u59,hinv⟩:=hinv;obtain⟨u63,hinv⟩:=hinv;obtain⟨u64,hinv⟩:=hinv;obtain⟨u65,hinv⟩:=hinv;obtain⟨u66,hinv⟩:=hinv;obtain⟨u67,hinv⟩:=hinv;obtain⟨u68,hinv⟩:=hinv;obtain⟨u69,hinv⟩:=hinv;obtain⟨u70,hinv⟩:=hinv;obtain⟨u71,hinv⟩:=hinv;obtain⟨u72,hinv⟩:=hinv;obtain⟨u73,hinv⟩:=hinv;obtain⟨u74,hinv⟩:=hinv;obtain⟨u75,hinv⟩:=hinv;obtain⟨u76,hinv⟩:=hinv;obtain⟨u77,hinv⟩:=hinv;obtain⟨u78,hinv⟩:=hinv;obtain⟨u79,hinv⟩:=hinv;obtain⟨u80,hinv⟩:=hinv;obtain⟨u81,hinv⟩:=hinv;obtain⟨u82,hinv⟩:=hinv;obtain⟨u83,hinv⟩:=hinv;obtain⟨u84,hinv⟩:=hinv;obtain⟨u85,hinv⟩:=hinv;obtain⟨u86,hinv⟩:=hinv;obtain⟨u87,hinv⟩:=hinv;obtain⟨u88,hinv⟩:=hinv;obtain⟨u89,hinv⟩:=hinv;obtain⟨u90,hinv⟩:=hinv;obtain⟨u91,hinv⟩:=hinv;obtain⟨u92,hinv⟩:=hinv;obtain⟨u93,hinv⟩:=hinv;obtain⟨u94,hinv⟩:=hinv;obtain⟨u95,hinv⟩:=hinv;obtain⟨u96,hinv⟩:=hinv;obtain⟨u97,hinv⟩:=hinv;obtain⟨u98,hinv⟩:=hinv;obtain⟨u99,hinv⟩:=hinv;obtain⟨u100,hinv⟩:=hinv;obtain⟨u101,hinv⟩:=hinv;obtain⟨u102,hinv⟩:=hinv;obtain⟨u103,hinv⟩:=hinv;obtain⟨u104,hinv⟩:=hinv;obtain⟨u105,hinv⟩:=hinv;obtain⟨u106,hinv⟩:=hinv;obtain⟨u107,hinv⟩:=hinv;obtain⟨u108,hinv⟩:=hinv;obtain⟨u109,hinv⟩:=hinv;obtain⟨u110,hinv⟩:=hinv;obtain⟨u111,hinv⟩:=hinv;obtain⟨u112,hinv⟩:=hinv;obtain⟨u113,hinv⟩:=hinv;obtain⟨u114,hinv⟩:=hinv;obtain⟨u115,hinv⟩:=hinv;obtain⟨u116,hinv⟩:=hinv;obtain⟨u117,hinv⟩:=hinv;obtain⟨u118,hinv⟩:=hinv;obtain⟨u119,hinv⟩:=hinv;obtain⟨u120,hinv⟩:=hinv;obtain⟨u121,hinv⟩:=hinv;obtain⟨u122,hinv⟩:=hinv;obtain⟨u123,hinv⟩:=hinv;obtain⟨u124,hinv⟩:=hinv;obtain⟨u125,hinv⟩:=hinv;obtain⟨u126,hinv⟩:=hinv;obtain⟨u127,hinv⟩:=hinv;obtain⟨u128,hinv⟩:=hinv;obtain⟨u129,hinv⟩:=hinv;obtain⟨u130,hinv⟩:=hinv;obtain⟨u131,hinv⟩:=hinv;obtain⟨u132,hinv⟩:=hinv;obtain⟨u133,hinv⟩:=hinv;obtain⟨u134,hinv⟩:=hinv;obtain⟨u135,hinv⟩:=hinv;obtain⟨u136,hinv⟩:=hinv;obtain⟨u137,hinv⟩:=hinv;obtain⟨u138,hinv⟩:=hinv;obtain⟨u139,hinv⟩:=hinv;obtain⟨u140,hinv⟩:=hinv;obtain⟨u141,hinv⟩:=hinv;obtain⟨u142,hinv⟩:=hinv;obtain⟨u143,hinv⟩:=hinv;obtain⟨u144,hinv⟩:=hinv;obtain⟨u145,hinv⟩:=hinv;obtain⟨u146,hinv⟩:=hinv;obtain⟨u147,hinv⟩:=hinv;obtain⟨u148,hinv⟩:=hinv;obtain⟨u149,hinv⟩:=hinv;obtain⟨u150,hinv⟩:=hinv;obtain⟨u151,hinv⟩:=hinv;obtain⟨u152,hinv⟩:=hinv;obtain⟨u153,hinv⟩:=hinv;obtain⟨u154,hinv⟩:=hinv;obtain⟨u155,hinv⟩:=hinv;obtain⟨u156,hinv⟩:=hinv;obtain⟨u157,hinv⟩:=hinv;obtain⟨u158,hinv⟩:=hinv;obtain⟨u159,hinv⟩:=hinv;obtain⟨u160,hinv⟩:=hinv;obtain⟨u161,hinv⟩:=hinv;obtain⟨hp,hI,hK,hM,ha⟩:=hinv;subst ha;clear hM0;clear hI0 hK0;obtain⟨wz,rfl⟩:∃z,z=wr:=⟨_,rfl⟩;have hBz:=zh (hB4.out.trans (hK.out.mono hB4.out.size));have hKz:=zh (hB34.out.trans (hK.out.mono hB34.out.size))
           by_cases hpn:p<s.ps.length
           · skip
             have hI2:Hid (D5 (Ad s.cap) (toN F) false val (rnk R) p→∀j,j<p+1→D5 (Ad s.cap) (toN F) false val (rnk R) j):=fun h j hj=>by
              by_cases c:j=p
              · subst c;exact h
              · exact hI.out j (by omega)
             have hnp2:Hid (¬D5 (Ad s.cap) (toN F) false val (rnk R) p→¬Chk s F false V R):=fun h h2=>h (hchk.out.2 h2 p hpn);obtain⟨ab,ao,rfl,al,ac⟩:=(hVi.out.below hBz.out (Nat.le_refl _)) (by rw[Ah];omega);obtain⟨e0,e1,e2⟩:=ac p (by rw[Ah];omega);rw[B7]at e0 e1 e2;clear ac;have j0:(0:Int)≤(p:Int):=by omega
             have j1:(p:Int)<(s.ps.length:Int):=by omega
             obtain⟨w6,hw6⟩:∃X,X=((wz.alloc (.cells #[.int .i64 (p:Int)] 3)).alloc (.cells #[.bool (rq (val p)).1,.string (rq (val p)).2.1,.string (rq (val p)).2.2] 40)):=⟨_,rfl⟩;obtain⟨ib,hib⟩:∃x,x=wz.heap.size:=⟨_,rfl⟩;have hKz6:Hid (Below wz.heap.size wz w6):=by rw[hw6];exact((Below.refl _ wz).alloc (Nat.le_refl _) _).alloc (by simp) _
             have hP6:Hid (Bk w6 ib 3 [.int .i64 (p:Int)]):=by rw[hw6,hib];exact(Bk.new wz _ _).alloc _
             have hV6:Hid (Bk w6 (ib+1) 40 [.bool (rq (val p)).1,.string (rq (val p)).2.1,.string (rq (val p)).2.2]):=by
              rw[hw6,hib];have h:=Bk.new (wz.alloc (.cells #[.int .i64 (p:Int)] 3)) 40 [.bool (rq (val p)).1,.string (rq (val p)).2.1,.string (rq (val p)).2.2];rw[World.size_alloc]at h;exact h
             have hB6:=zh (hBz.out.trans (hKz6.out.mono hBz.out.size));have hK46:=zh (hK.out.trans (hKz6.out.mono hK.out.size));have hK36:=zh (hKz.out.trans (hKz6.out.mono hKz.out.size));have hO6:=zh (hO4.out.below hK46.out);have hQ6:=zh (hQ4.out.below hK46.out);have kc:=FN Af cf F (p:Int) w6 (hF.out.below hB6.out) hFl;have hli:=hlist.out p;obtain⟨mb,hmb⟩:∃b,b=decide ((p:Int)∈F):=⟨_,rfl⟩;rw[←hmb]at kc;rw[hw6]at kc;replace kc:=zh kc;have hmF:Hid (mb=true↔p∈toN F):=by rw[hmb,decide_eq_true_iff];exact hli.symm
             replace hmb:=zh hmb;replace hw6:=zh hw6;replace hib:=zh hib;replace hli:=zh hli
             go_wp2_with fail
             refine kc.out.mono ?_;rintro e wq ⟨rfl,hq⟩;rw[←hw6.out]at hq;obtain rfl:=hq
             (try rw[←hib.out])
             clear kc e0 e1 e2 al hI hKz hBz hK hw6 hib;have o0:=hO6.out.c0;have o1:=hO6.out.c1;have o2:=hO6.out.c2;have o9:=hO6.out.lt;have x0:=hV6.out.c0;have x1:=hV6.out.c1;have x2:=hV6.out.c2;have x9:=hV6.out.lt;have y0:=hP6.out.c0;have y9:=hP6.out.lt;have f0:=hQ6.out.c0;have f1:=hQ6.out.c1;have f2:=hQ6.out.c2;have f9:=hQ6.out.lt;have hE6:Hid (∀W,Below wq.heap.size wq W→Env W):=fun W h=>hE.out.below (hB6.out.trans (h.mono hB6.out.size));have ks6:Hid (∀W,Below wq.heap.size wq W→Calls Tryz.prog 39 #[.int .i64 (p:Int),.pointer (some ⟨w.heap.size,0,none⟩),.pointer (some ⟨w.heap.size+1,0,none⟩)] W fun e w'=>e=.returned (.agg #[.bool (rq (Aj p val (Ad s.cap))).1,.string (rq (Aj p val (Ad s.cap))).2.1,.string (rq (Aj p val (Ad s.cap))).2.2])∧Below W.heap.size W w'):=fun W h=>ksum.out p W (hK36.out.trans (h.mono hK36.out.size));have hsp:=zh (hsh.out p);have hlp:=zh (hls.out p);obtain⟨sm,hsm⟩:∃q,q=Aj p val (Ad s.cap):=⟨_,rfl⟩;rw[←hsm]at ks6 hlp;replace hsm:=zh hsm;obtain⟨v,hv⟩:∃q,q=val p:=⟨_,rfl⟩;rw[←hv]at x0 x1 x2 hsp;replace hv:=zh hv;have HS:Hid (∀W,Below wq.heap.size wq W→(fun W=>W.cell? ⟨ob,0,none⟩=some (.bool (rq (1)).1)∧W.cell? ⟨ob,1,none⟩=some (.string (rq (1)).2.1)∧W.cell? ⟨ob,2,none⟩=some (.string (rq (1)).2.2)∧W.cell? ⟨ib+1,0,none⟩=some (.bool (rq (v)).1)∧W.cell? ⟨ib+1,1,none⟩=some (.string (rq (v)).2.1)∧W.cell? ⟨ib+1,2,none⟩=some (.string (rq (v)).2.2)∧W.cell? ⟨ib,0,none⟩=some (.int .i64 (p:Int))) W):=fun W h=>⟨(h.cell (p:=⟨ob,0,none⟩) o9).trans o0,(h.cell (p:=⟨ob,1,none⟩) o9).trans o1,(h.cell (p:=⟨ob,2,none⟩) o9).trans o2,(h.cell (p:=⟨ib+1,0,none⟩) x9).trans x0,(h.cell (p:=⟨ib+1,1,none⟩) x9).trans x1,(h.cell (p:=⟨ib+1,2,none⟩) x9).trans x2,(h.cell (p:=⟨ib,0,none⟩) y9).trans y0⟩;have hM6:Hid (Mk w.heap.size Ds wq):=hM.out.below hKz6.out;clear hM hKz6;obtain⟨rkb,rko,rfl,rkl,rkc⟩:=(hR.out.below hB6.out) (by rw[hrl.out];omega);have r0:=rkc p (by rw[hrl.out];exact hpn);have hrp:Hid (rnk R p=R[p]'(by rw[hrl.out];exact hpn)):=by unfold rnk;rw[List.getD_eq_getElem?_getD,List.getElem?_eq_getElem (by rw[hrl.out];exact hpn)];rfl
             obtain⟨rp,hrp2⟩:∃x,x=rnk R p:=⟨_,rfl⟩;rw[←hrp.out,←hrp2]at r0;replace hrp2:=zh hrp2;have q62:(p:Int)<(R.length:Int):=by rw[hrl.out];omega
             have z:=Ib v
             by_cases hv0:v=0
             · skip
               rw[decide_eq_true hv0]at z;have hvp:val p=0:=by rw[←hv.out];exact hv0
               replace hv0:=zh hv0
               by_cases hr1:rp=-1
               rotate_left
               · skip
                 have m1:(rp != -1)=true:=by rw[bne_iff_ne];exact hr1
                 have hnc:Hid (¬Chk s F false V R):=hnp2.out fun h=>hr1 (by rw[hrp2.out];exact(h.2 rfl).1 hvp);replace hr1:=zh hr1;replace hvp:=zh hvp;go_wp2
                 (try rw[Exit.noGoto_ret])
                 exact Bh (Nat.le_refl _) (Ds) _ hM6.out hB6.out (fun W2 hW2 _=>⟨_,results_tmp rfl _ _ _,hno.out hnc.out _ _ rfl hW2⟩)
               · skip
                 have m1:(rp != -1)=false:=by rw[bne_eq_false_iff_eq];exact hr1
                 have hI3:=zh (hI2.out ⟨fun h=>(by cases h),fun _=>⟨fun _=>by rw[←hrp2.out];exact hr1,fun h=>absurd hvp h,fun h=>absurd hvp h⟩⟩);replace hr1:=zh hr1;replace hvp:=zh hvp;go_wp2;exact⟨⟨p+1,Ds,_,_,_,_,_,_,_,_,_,_,_,_,_,_,_,_,_,_,_,_,_,_,_,_,_,_,_,_,_,_,_,_,_,_,_,_,_,_,_,_,_,_,_,_,_,_,_,_,_,_,_,_,_,_,_,_,_,_,_,_,_,_,_,_,_,_,_,_,_,_,_,_,_,_,_,_,_,_,_,_,_,_,_,_,_,_,_,_,_,_,_,_,_,_,_,_,_,_,_,_,_,_,_,_,_,_,_,_,_,_,_,_,_,_,_,_,_,_,_,_,_,_,_,_,_,_,_,_,_,_,_,_,_,_,_,_,_,_,_,_,_,_,_,_,_,_,by omega,hI3,hK46,hM6,by go_num⟩,by simp[intOf];omega⟩
             · skip
               rw[decide_eq_false hv0]at z;have hvp:val p≠0:=by rw[←hv.out];exact hv0
               replace hv0:=zh hv0
               cases mb with
               | true =>
                 have hm:=hmF.out.1 rfl
                 by_cases hr1:rp=0
                 rotate_left
                 · skip
                   have m1:(rp != 0)=true:=by rw[bne_iff_ne];exact hr1
                   have hnc:Hid (¬Chk s F false V R):=hnp2.out fun h=>hr1 (by rw[hrp2.out];exact((h.2 rfl).2.1 hvp hm).1);replace hr1:=zh hr1;replace hvp:=zh hvp;replace hm:=zh hm;go_wp2
                   (try rw[Exit.noGoto_ret])
                   exact Bh (Nat.le_refl _) (Ds) _ hM6.out hB6.out (fun W2 hW2 _=>⟨_,results_tmp rfl _ _ _,hno.out hnc.out _ _ rfl hW2⟩)
                 · skip
                   have m1:(rp != 0)=false:=by rw[bne_eq_false_iff_eq];exact hr1
                   by_cases h1v:v≤1
                   rotate_left
                   · skip
                     have kl:Hid (∀W,Env W→Calls Tryz.prog 43 #[.agg #[.bool (rq (v)).1,.string (rq (v)).2.1,.string (rq (v)).2.2],.agg #[.bool (rq (1)).1,.string (rq (1)).2.1,.string (rq (1)).2.2]] W fun e w'=>e=.returned (.bool false)∧Below W.heap.size W w'):=fun W hW=>by have h:=BM (v) (1) hsp.out s1.out W hW;rw[decide_eq_false h1v]at h;exact h
                     have hnc:Hid (¬Chk s F false V R):=hnp2.out fun h=>h1v (by rw[hv.out];exact((h.2 rfl).2.1 hvp hm).2);replace h1v:=zh h1v;replace hr1:=zh hr1;replace hvp:=zh hvp;replace hm:=zh hm
                     go_wp2_with fail
                     refine(kl.out _ (hE6.out _ (Below.refl _ _))).mono ?_;rintro e w7 ⟨rfl,hb⟩;have hB7:=zh (hB6.out.trans (hb.mono hB6.out.size));have hK7:=zh (hK46.out.trans (hb.mono hK46.out.size));have hM7:=zh (hM6.out.below hb);clear hb kl o0 o1 o2 o9 x0 x1 x2 x9 y0 y9 f0 f1 f2 f9 r0 rkl rkc;go_wp2
                     (try rw[Exit.noGoto_ret])
                     exact Bh (Nat.le_refl _) (Ds) _ hM7.out hB7.out (fun W2 hW2 _=>⟨_,results_tmp rfl _ _ _,hno.out hnc.out _ _ rfl hW2⟩)
                   · skip
                     have kl:Hid (∀W,Env W→Calls Tryz.prog 43 #[.agg #[.bool (rq (v)).1,.string (rq (v)).2.1,.string (rq (v)).2.2],.agg #[.bool (rq (1)).1,.string (rq (1)).2.1,.string (rq (1)).2.2]] W fun e w'=>e=.returned (.bool true)∧Below W.heap.size W w'):=fun W hW=>by have h:=BM (v) (1) hsp.out s1.out W hW;rw[decide_eq_true h1v]at h;exact h
                     have hI3:=zh (hI2.out ⟨fun h=>(by cases h),fun _=>⟨fun h=>absurd h hvp,fun _ _=>⟨by rw[←hrp2.out];exact hr1,by rw[←hv.out];exact h1v⟩,fun _ h=>absurd hm h⟩⟩);replace h1v:=zh h1v;replace hr1:=zh hr1;replace hvp:=zh hvp;replace hm:=zh hm
                     go_wp2_with fail
                     refine(kl.out _ (hE6.out _ (Below.refl _ _))).mono ?_;rintro e w7 ⟨rfl,hb⟩;have hB7:=zh (hB6.out.trans (hb.mono hB6.out.size));have hK7:=zh (hK46.out.trans (hb.mono hK46.out.size));have hM7:=zh (hM6.out.below hb);clear hb kl o0 o1 o2 o9 x0 x1 x2 x9 y0 y9 f0 f1 f2 f9 r0 rkl rkc;go_wp2;exact⟨⟨p+1,Ds,_,_,_,_,_,_,_,_,_,_,_,_,_,_,_,_,_,_,_,_,_,_,_,_,_,_,_,_,_,_,_,_,_,_,_,_,_,_,_,_,_,_,_,_,_,_,_,_,_,_,_,_,_,_,_,_,_,_,_,_,_,_,_,_,_,_,_,_,_,_,_,_,_,_,_,_,_,_,_,_,_,_,_,_,_,_,_,_,_,_,_,_,_,_,_,_,_,_,_,_,_,_,_,_,_,_,_,_,_,_,_,_,_,_,_,_,_,_,_,_,_,_,_,_,_,_,_,_,_,_,_,_,_,_,_,_,_,_,_,_,_,_,_,_,_,_,by omega,hI3,hK7,hM7,by go_num⟩,by simp[intOf];omega⟩
               | false =>
                 have hm:p∉toN F:=fun h=>by have:=hmF.out.2 h;cases this
                 have HS2:Hid (∀W,Below wq.heap.size wq W→(fun W=>W.cell? ⟨ob,0,none⟩=some (.bool (rq (1)).1)∧W.cell? ⟨ob,1,none⟩=some (.string (rq (1)).2.1)∧W.cell? ⟨ob,2,none⟩=some (.string (rq (1)).2.2)∧W.cell? ⟨ib+1,0,none⟩=some (.bool (rq (v)).1)∧W.cell? ⟨ib+1,1,none⟩=some (.string (rq (v)).2.1)∧W.cell? ⟨ib+1,2,none⟩=some (.string (rq (v)).2.2)∧W.cell? ⟨ib,0,none⟩=some (.int .i64 (p:Int))∧W.cell? ⟨w.heap.size+1,2,none⟩=some (.slice (some ⟨rkb,rko,none⟩) R.length cr)∧W.cell? ⟨rkb,rko+p,none⟩=some (.int .i64 rp)) W):=fun W h=>⟨(h.cell (p:=⟨ob,0,none⟩) o9).trans o0,(h.cell (p:=⟨ob,1,none⟩) o9).trans o1,(h.cell (p:=⟨ob,2,none⟩) o9).trans o2,(h.cell (p:=⟨ib+1,0,none⟩) x9).trans x0,(h.cell (p:=⟨ib+1,1,none⟩) x9).trans x1,(h.cell (p:=⟨ib+1,2,none⟩) x9).trans x2,(h.cell (p:=⟨ib,0,none⟩) y9).trans y0,(h.cell (p:=⟨w.heap.size+1,2,none⟩) f9).trans f2,(h.cell (p:=⟨rkb,rko+p,none⟩) rkl).trans r0⟩;clear HS
                 by_cases hr1:rp<1
                 · skip
                   have m1:decide (rp<1)=true:=decide_eq_true hr1;have hnc:Hid (¬Chk s F false V R):=hnp2.out fun h=>by have h3:=((h.2 rfl).2.2 hvp hm).1;rw[←hrp2.out]at h3;omega
                   replace hr1:=zh hr1;replace hvp:=zh hvp;replace hm:=zh hm
                   go_wp2_with fail
                   clear o0 o1 o2 o9 x0 x1 x2 x9 y0 y9 f0 f1 f2 f9 r0 rkl rkc;refine AD (by kernel_rfl) (by kernel_rfl) ?_
                   repeat (
                    with_reducible refine wpQuiet_step (fun K hK=>?_)
                    first
                     | (refine AY (by rfl) ?_;refine hK _ ?_;clear hK K;(try simp only[Act.put,List.setIfInBounds_toArray,List.set_cons_zero,List.set_cons_succ]))
                     | (refine AZ (by rfl) ?_
                        go_simp;apply Exists.intro;refine⟨fun W hW=>?_,hK _ ?_⟩
                        first
                         | (with_reducible exact A0 hW (ks6.out W hW))
                         | (obtain⟨q1,q2,q3,q4,q5,q6,q7,q8,q9⟩:=HS2.out W hW;go_simp<;>with_reducible rfl)
                        clear hK K))
                   refine wpQuiet_nil ?_;intro wf hbz;have hBf:=hB6.out.trans (hbz.mono hB6.out.size);replace hBf:=zh hBf;have hMf:=zh (hM6.out.below hbz);clear hbz HS2 hE6 ks6;go_wp2
                   (try rw[Exit.noGoto_ret])
                   exact Bh (Nat.le_refl _) (Ds) _ hMf.out hBf.out (fun W2 hW2 _=>⟨_,results_tmp rfl _ _ _,hno.out hnc.out _ _ rfl hW2⟩)
                 · skip
                   have m1:decide (rp<1)=false:=decide_eq_false hr1
                   by_cases h1v:v≤sm
                   rotate_left
                   · skip
                     have kl:Hid (∀W,Env W→Calls Tryz.prog 43 #[.agg #[.bool (rq (v)).1,.string (rq (v)).2.1,.string (rq (v)).2.2],.agg #[.bool (rq (sm)).1,.string (rq (sm)).2.1,.string (rq (sm)).2.2]] W fun e w'=>e=.returned (.bool false)∧Below W.heap.size W w'):=fun W hW=>by have h:=BM (v) (sm) hsp.out hlp.out W hW;rw[decide_eq_false h1v]at h;exact h
                     have hnc:Hid (¬Chk s F false V R):=hnp2.out fun h=>h1v (by rw[hv.out,hsm.out];exact((h.2 rfl).2.2 hvp hm).2.1);replace hr1:=zh hr1;replace hvp:=zh hvp;replace hm:=zh hm;replace h1v:=zh h1v
                     go_wp2_with fail
                     clear o0 o1 o2 o9 x0 x1 x2 x9 y0 y9 f0 f1 f2 f9 r0 rkl rkc;refine AD (by kernel_rfl) (by kernel_rfl) ?_
                     repeat (
                      with_reducible refine wpQuiet_step (fun K hK=>?_)
                      first
                       | (refine AY (by rfl) ?_;refine hK _ ?_;clear hK K;(try simp only[Act.put,List.setIfInBounds_toArray,List.set_cons_zero,List.set_cons_succ]))
                       | (refine AZ (by rfl) ?_
                          go_simp;apply Exists.intro;refine⟨fun W hW=>?_,hK _ ?_⟩
                          first
                           | (with_reducible exact A0 hW (kl.out W (hE6.out W hW)))
                           | (with_reducible exact A0 hW (ks6.out W hW))
                           | (obtain⟨q1,q2,q3,q4,q5,q6,q7,q8,q9⟩:=HS2.out W hW;go_simp<;>with_reducible rfl)
                          clear hK K))
                     refine wpQuiet_nil ?_;intro wf hbz;have hBf:=hB6.out.trans (hbz.mono hB6.out.size);replace hBf:=zh hBf;have hMf:=zh (hM6.out.below hbz);clear hbz HS2 hE6 ks6;go_wp2
                     (try rw[Exit.noGoto_ret])
                     exact Bh (Nat.le_refl _) (Ds) _ hMf.out hBf.out (fun W2 hW2 _=>⟨_,results_tmp rfl _ _ _,hno.out hnc.out _ _ rfl hW2⟩)
                   · skip
                     have kl:Hid (∀W,Env W→Calls Tryz.prog 43 #[.agg #[.bool (rq (v)).1,.string (rq (v)).2.1,.string (rq (v)).2.2],.agg #[.bool (rq (sm)).1,.string (rq (sm)).2.1,.string (rq (sm)).2.2]] W fun e w'=>e=.returned (.bool true)∧Below W.heap.size W w'):=fun W hW=>by have h:=BM (v) (sm) hsp.out hlp.out W hW;rw[decide_eq_true h1v]at h;exact h
                     have hIg:Hid ((∃x,x∈Ad s.cap∧x.1=p∧0≤rnk R x.2.1∧rnk R x.2.1<rnk R p∧val x.2.1≠0)→∀j,j<p+1→D5 (Ad s.cap) (toN F) false val (rnk R) j):=fun hgr=>hI2.out ⟨fun h=>(by cases h),fun _=>⟨fun h=>absurd h hvp,fun _ h=>absurd h hm,fun _ _=>⟨by rw[←hrp2.out];omega,by rw[←hv.out,←hsm.out];exact h1v,hgr⟩⟩⟩;have hNg:Hid ((¬∃x,x∈Ad s.cap∧x.1=p∧0≤rnk R x.2.1∧rnk R x.2.1<rnk R p∧val x.2.1≠0)→¬Chk s F false V R):=fun hgr=>hnp2.out fun h=>hgr ((h.2 rfl).2.2 hvp hm).2.2;replace hr1:=zh hr1;replace hvp:=zh hvp;replace hm:=zh hm;replace h1v:=zh h1v;clear hI2 hnp2
                     go_wp2_with fail
                     clear o0 o1 o2 o9 x0 x1 x2 x9 y0 y9 f0 f1 f2 f9 r0 rkl rkc;refine AD (by kernel_rfl) (by kernel_rfl) ?_
                     repeat (
                      with_reducible refine wpQuiet_step (fun K hK=>?_)
                      first
                       | (refine AY (by rfl) ?_;refine hK _ ?_;clear hK K;(try simp only[Act.put,List.setIfInBounds_toArray,List.set_cons_zero,List.set_cons_succ]))
                       | (refine AZ (by rfl) ?_
                          go_simp;apply Exists.intro;refine⟨fun W hW=>?_,hK _ ?_⟩
                          first
                           | (with_reducible exact A0 hW (kl.out W (hE6.out W hW)))
                           | (with_reducible exact A0 hW (ks6.out W hW))
                           | (obtain⟨q1,q2,q3,q4,q5,q6,q7,q8,q9⟩:=HS2.out W hW;go_simp<;>with_reducible rfl)
                          clear hK K))
                     refine wpQuiet_nil ?_;intro wf hbz;have hBf:=zh (hB6.out.trans (hbz.mono hB6.out.size));have hKf:=zh (hK46.out.trans (hbz.mono hK46.out.size));have hMf:=zh (hM6.out.below hbz);have hPf:=zh (hP6.out.below hbz);have hQf:=zh (hQ4.out.below hKf.out);have hSf:=zh (hS4.out.below hKf.out);clear hbz HS2 hE6 ks6 kl hB6 hK46 hM6 hP6 hV6 hO6 hQ6 hK36;have u0:=hSf.out.c0;have u1:=hSf.out.c1;have u2:=hSf.out.c2;have u9:=hSf.out.lt;have y0:=hPf.out.c0;have y9:=hPf.out.lt;have kh:=zh (G4 s Ap Ac Av cp cc cv (p:Int) wf)
                     go_wp2_with fail
                     refine kh.out.mono ?_;rintro e w8 ⟨rfl,hw8⟩
                     go_wp2_with fail
                     (try rw[←hw8])
                     have hz8:w8.heap.size=wf.heap.size+2:=by rw[hw8];simp
                     have hB8:Hid (Below wf.heap.size wf w8):=by rw[hw8];exact((Below.refl _ _).alloc (Nat.le_refl _) _).alloc (by simp) _
                     have hS8:Hid (Bk w8 wf.heap.size 25 [.slice Ap s.ps.length cp,.slice Ac s.cap.length cc,.slice Av s.vot.length cv]):=by rw[hw8];exact(Bk.new wf _ _).alloc _
                     have hP8:Hid (Bk w8 (wf.heap.size+1) 3 [.int .i64 (p:Int)]):=by
                      rw[hw8];have h:=Bk.new (wf.alloc (.cells #[.slice Ap s.ps.length cp,.slice Ac s.cap.length cc,.slice Av s.vot.length cv] 25)) 3 [.int .i64 (p:Int)];rw[World.size_alloc]at h;exact h
                     have hcf:=zh (hs.out.below hBf.out).cap;have hc8:Hid (InLk w8 Ac s.cap):=hcf.out.below hB8.out
                     have hcb:Hid (0<s.cap.length→∀b o,Ac=some ⟨b,o,none⟩→b<wf.heap.size):=fun h0 b o e=>by
                      obtain⟨b',o',e',hl,_⟩:=hcf.out h0;rw[e]at e';cases e';exact hl
                     replace hw8:=zh hw8;clear u0 u1 u2 u9 y0 y9 kh hcf;refine Rg (fun fr hfr=>?_);refine(wpIn_wide (n:=3)).1 ?_
                     refine wpIn_rangeFunc_ownH (F:=Fence.wide) rfl (by decide) (gf:=87) (lb:=#[.pointer (some ⟨wf.heap.size,0,none⟩),.pointer (some ⟨wf.heap.size+1,0,none⟩)]) (by rw[hfr];rfl) trivial (enters_of Tryz.func87 (by kernel_rfl) rfl)
                      (Fd Fence.wide 2 trivial rfl (by decide) s Ap Ac Av cp cc cv wf.heap.size (wf.heap.size+1) wf.heap.size (p:Int) w8 hc8.out hnc47 (by omega) hcb.out (by omega) hS8.out (hP8.out.c0)) (fun h k=>Kq.trans h k) (UF (by omega) (by omega)) (Below.refl _ _) (fun _=>rfl)
                      (fun pre W=>(NG (Ad s.cap) val (rnk R) p pre∧Bk W (wf.heap.size+1) 3 [.int .i64 (p:Int)])∧Below wf.heap.size wf W)
                      (fun c pre W=>(c=.exit 1∧SG (Ad s.cap) val (rnk R) p pre)∧Below wf.heap.size wf W)
                      (OwnFrom.and (fun _ _ _ _ hs hg hr=>⟨hs.1,Gl hs.2 hg hr⟩) (ownFrom_below (Nat.le_refl _) (by omega)))
                      (fun c=>OwnFrom.and (fun _ _ _ _ hs _ _=>hs) (ownFrom_below (Nat.le_refl _) (by omega)))
                      ⟨⟨fun _ h=>(by cases h),hP8.out⟩,hB8.out⟩
                      (fun x a' W=>∃Bx,wf.heap.size+1<Bx∧Bk W Bx 59 [.int .i64 (s.cap[x.1]'x.2).1,.int .i64 (s.cap[x.1]'x.2).2.1,.bool (s.cap[x.1]'x.2).2.2.1,.string (s.cap[x.1]'x.2).2.2.2.1,.string (s.cap[x.1]'x.2).2.2.2.2]∧a'={ tmps:=(fr.setIfInBounds 87 (lkV (s.cap[x.1]'x.2))).setIfInBounds 16 (.pointer (some ⟨Bx,0,none⟩)),defers:=[] })
                      (fun x a' _ X Y row hs hg hr=>by obtain⟨Bx,h1,h2,h3⟩:=hs;exact⟨Bx,h1,Gl h2 hg hr,h3⟩)
                      ?assign ?body ?done ?stop
                     case assign =>
                      rintro l pre x W K ⟨⟨hng,bP⟩,hB⟩ hK2;have hWs:=hB.size;have hPl:=bP.lt;subst hfr;unfold lkV at hK2 ⊢
                      gi_wp2
                      exact hK2 _ _ ((KeepsOthers.alloc _ _).from _) ((Kq.refl W).alloc hWs hPl _) ⟨⟨hng,bP.alloc _⟩,hB.alloc hWs _⟩ ⟨W.heap.size,by omega,Bk.new W _ _,rfl⟩
                     case body =>
                      rintro l pre x a' W hl ⟨r,hr⟩ ⟨⟨hng,bP⟩,hB⟩ ⟨Bx,hBx,bX,rfl⟩ hlt;obtain⟨i,hi⟩:=x;obtain⟨co,ho,Ag,hle,hlp,hco,hho⟩:=CX hsd.out (k:=i) hi;dsimp only at bX ⊢;rw[hle]at bX ⊢;dsimp only at bX;have hgi:Hid (Gd (Ad s.cap) val (rnk R) p i↔0≤rnk R ho∧rnk R ho<rnk R p∧val ho≠0):=by unfold Gd;rw[Ic hi,hlp];exact Iff.rfl
                      have hWs:=hB.size;have hBW:=hBf.out.trans (hB.mono hBf.out.size);have bQ:=hQf.out.below hB;have bI:=hPf.out.below hB;rw[hvl.out]at bQ;obtain⟨b1,o1,e1,rl,rc⟩:=(hR.out.below hBW) (by rw[hrl.out];omega)
                      cases e1
                      have r0:=rc p (by rw[hrl.out];exact hpn);have r1:=rc ho (by rw[hrl.out];exact hho);have hrh:rnk R ho=R[ho]'(by rw[hrl.out];exact hho):=by unfold rnk;rw[List.getD_eq_getElem?_getD,List.getElem?_eq_getElem (by rw[hrl.out];exact hho)];rfl
                      rw[←hrp.out]at r0;rw[←hrh]at r1;obtain⟨b2,o2,e2,vl,vc⟩:=(hVi.out.below hBW (Nat.le_refl _)) (by rw[Ah];omega)
                      cases e2
                      obtain⟨_,v1,_⟩:=vc ho (by rw[Ah];omega);rw[B7]at v1;clear rc vc hrh;have f1:=bQ.c1;have f2:=bQ.c2;have f9:=bQ.lt;have y0:=bI.c0;have y9:=bI.lt;have x1:=bX.c1;have x9:=bX.lt;obtain⟨rh,hrh⟩:∃x,x=rnk R ho:=⟨_,rfl⟩;obtain⟨rq0,hrq⟩:∃x,x=rnk R p:=⟨_,rfl⟩;obtain⟨vh,hvh⟩:∃x,x=val ho:=⟨_,rfl⟩;rw[←hrh]at r1 hgi;rw[←hrq]at r0 hgi;rw[←hvh]at v1 hgi;have z:=Ib vh;have q3:(0:Int)≤(ho:Int):=by omega
                      have q4:(ho:Int)<(s.ps.length:Int):=by omega
                      have q5:(ho:Int)<(R.length:Int):=by rw[hrl.out];omega
                      replace hrh:=zh hrh;replace hrq:=zh hrq;replace hvh:=zh hvh;replace hB:=zh hB;replace bP:=zh bP;replace hng:=zh hng;replace hle:=zh hle;replace hlp:=zh hlp;replace hr:=zh hr;replace hBW:=zh hBW;clear bX bQ bI;subst hfr;simp only[List.setIfInBounds_toArray,List.set_cons_zero,List.set_cons_succ]
                      by_cases g1:0≤rh
                      rotate_left
                      · skip
                        have n1:decide (0≤rh)=false:=decide_eq_false g1;have hg3:Hid (¬Gd (Ad s.cap) val (rnk R) p i):=fun h=>g1 (hgi.out.1 h).1;replace g1:=zh g1
                        gi_wp2
                        exact⟨KeepsFrom.refl _ _,Kq.refl W,⟨hng.out.snoc hg3.out,bP.out⟩,hB.out⟩
                      · skip
                        have n1:decide (0≤rh)=true:=decide_eq_true g1
                        by_cases g2:rh<rq0
                        rotate_left
                        · skip
                          have n2:decide (rh<rq0)=false:=decide_eq_false g2;have hg3:Hid (¬Gd (Ad s.cap) val (rnk R) p i):=fun h=>g2 (hgi.out.1 h).2.1;replace g1:=zh g1;replace g2:=zh g2
                          gi_wp2
                          exact⟨KeepsFrom.refl _ _,Kq.refl W,⟨hng.out.snoc hg3.out,bP.out⟩,hB.out⟩
                        · skip
                          have n2:decide (rh<rq0)=true:=decide_eq_true g2
                          by_cases g3:vh=0
                          · skip
                            rw[decide_eq_true g3]at z;have hg3:Hid (¬Gd (Ad s.cap) val (rnk R) p i):=fun h=>(hgi.out.1 h).2.2 g3;replace g1:=zh g1;replace g2:=zh g2;replace g3:=zh g3;have z2:((rq vh).2.1.toList != [48])=false:=by unfold bne;rw[z];rfl
                            gi_wp2
                            exact⟨KeepsFrom.refl _ _,Kq.refl W,⟨hng.out.snoc hg3.out,bP.out⟩,hB.out⟩
                          · skip
                            rw[decide_eq_false g3]at z;have hg3:Hid (Gd (Ad s.cap) val (rnk R) p i):=hgi.out.2 ⟨g1,g2,g3⟩;replace g1:=zh g1;replace g2:=zh g2;replace g3:=zh g3;have z2:((rq vh).2.1.toList != [48])=true:=by unfold bne;rw[z];rfl
                            gi_wp2
                            exact⟨KeepsFrom.refl _ _,⟨rfl,SG.snoc pre hg3.out⟩,hB.out⟩
                     case done =>
                      rintro D2 ys W hD rfl ⟨⟨hng,_⟩,hB⟩ hKd
                      have hnc:Hid (¬Chk s F false V R):=hNg.out fun hx=>by
                       obtain⟨i,h1,h2⟩:=OI hsd.out hx;exact hng i h1 h2
                      have hBW:=zh (hBf.out.trans (hB.mono hBf.out.size));have hMW:Hid (Mk w.heap.size (D2::Ds) W):=(hMf.out.below hB).cons (by have:=hBf.out.size;omega) hKd (fun h=>by have:=hMf.out.lt h;omega);clear hng hKd hB;subst hfr;go_wp2
                      (try rw[Exit.noGoto_ret])
                      exact Bh (Nat.le_refl _) (D2::Ds) _ hMW.out hBW.out (fun W2 hW2 _=>⟨_,results_tmp rfl _ _ _,hno.out hnc.out _ _ rfl hW2⟩)
                     case stop =>
                      rintro D2 c pre W hD ⟨k,hk,rfl⟩ ⟨⟨rfl,hsg⟩,hB⟩ hKd;obtain⟨i,hi,hgd⟩:=hsg;have hI3:=zh (hIg.out (OJ hsd.out hi hgd));have hBW:=zh (hBf.out.trans (hB.mono hBf.out.size));have hKW:=zh (hKf.out.trans (hB.mono hKf.out.size));have hMW:Hid (Mk w.heap.size (D2::Ds) W):=(hMf.out.below hB).cons (by have:=hBf.out.size;omega) hKd (fun h=>by have:=hMf.out.lt h;omega);clear hKd hB hi hgd;subst hfr;refine wpIn_wide.2 ?_;go_wp2;exact⟨⟨p+1,D2::Ds,_,_,_,_,_,_,_,_,_,_,_,_,_,_,_,_,_,_,_,_,_,_,_,_,_,_,_,_,_,_,_,_,_,_,_,_,_,_,_,_,_,_,_,_,_,_,_,_,_,_,_,_,_,_,_,_,_,_,_,_,_,_,_,_,_,_,_,_,_,_,_,_,_,_,_,_,_,_,_,_,_,_,_,_,_,_,_,_,_,_,_,_,_,_,_,_,_,_,_,_,_,_,_,_,_,_,_,_,_,_,_,_,_,_,_,_,_,_,_,_,_,_,_,_,_,_,_,_,_,_,_,_,_,_,_,_,_,_,_,_,_,_,_,_,_,_,by omega,hI3,hKW,hMW,by go_num⟩,by simp[intOf];omega⟩
           · skip
             obtain rfl:p=s.ps.length:=by omega
             have hyes:=zh (hchk.out.1 hI.out);go_wp2
             (try rw[Exit.noGoto_ret])
             exact Bh (Nat.le_refl _) Ds _ hM.out hBz.out (fun W2 hW2 _=>⟨_,results_tmp rfl _ _ _,ChkPost.yes hyes.out rfl hW2⟩)
theorem IT (s:SR) (Ap Ac Av Af Aw Ar:Option Addr) (cp cc cv cf cw cr:Nat) (F:List Int) (ab:Bool) (V:List Raw) (R:List Int) (w:World) (hE:Env w) (hs:StIn w s Ap Ac Av) (hc3:s.cap.length≤300) (hF:InInt w Af F) (hFl:F.length≤140737488355328)
 (hV:InRow w Aw V) (hVl:V.length≤140737488355328) (hVs:∀k (h:k<V.length),V[k].2.1.size≤140737488355328∧V[k].2.2.size≤140737488355328) (hR:InInt w Ar R) (hRl:R.length≤140737488355328) :
 Calls Tryz.prog 18 #[.agg #[.slice Ap s.ps.length cp,.slice Ac s.cap.length cc,.slice Av s.vot.length cv],.slice Af F.length cf,.agg #[.bool ab,.slice Aw V.length cw,.slice Ar R.length cr]] w (ChkPost s F ab V R w):=by
 cases ab
 · exact KP s Ap Ac Av Af Aw Ar cp cc cv cf cw cr F V R w hE hs hc3 hF hFl hV hVl hVs hR hRl
 · exact Mu s Ap Ac Av Af Aw Ar cp cc cv cf cw cr F V R w hE hs hc3 hF hFl hV hVl hVs hR hRl
end Bd
end
section
open Go.RowKit Go.Shelf
namespace Sh
open Nt Ci
structure VMC (w:World) (vb mb n:Nat) (val:Nat→Rat) (C:Nat):Prop where
 x:Bk w vb 69 [.map (some mb)]
 m:∃c f,MapK Tryz.prog 3 κi w mb c f∧c≤C∧∀p:Nat,p<n→match f (p:Int) with | some v=>v=qv (val p) | none=>val p=0
 ne:vb≠mb
section
variable {w w':World} {vb mb n C:Nat} {val:Nat→Rat}
theorem VMC.vm (h:VMC w vb mb n val C) (hC:C≤100000):VM w vb mb n val:=by
 obtain⟨c,f,h1,h2,h3⟩:=h.m;exact⟨h.x,c,f,h1,by omega,h3⟩
theorem VMC.lt (h:VMC w vb mb n val C):mb<w.heap.size:=by
 obtain⟨c,f,h1,_⟩:=h.m;exact h1.lt
theorem VMC.kp {xs:List Nat} (h:VMC w vb mb n val C) (hk:Kp xs w w') (h1:vb∉xs) (h2:mb∉xs):VMC w' vb mb n val C:=by
 obtain⟨c,f,a1,a2,a3⟩:=h.m;exact⟨h.x.kp hk h1,⟨c,f,a1.block (hk.block mb a1.lt h2),a2,a3⟩,h.ne⟩
theorem VMC.below (h:VMC w vb mb n val C) (hb:Below w.heap.size w w'):VMC w' vb mb n val C:=by
 obtain⟨c,f,a1,a2,a3⟩:=h.m;exact⟨h.x.below hb,⟨c,f,a1.below hb,a2,a3⟩,h.ne⟩
theorem VMC.congr {val':Nat→Rat} (h:VMC w vb mb n val C) (e:∀p,p<n→val' p=val p):VMC w vb mb n val' C:=by
 obtain⟨c,f,a1,a2,a3⟩:=h.m;exact⟨h.x,⟨c,f,a1,a2,fun p hp=>by rw[e p hp];exact a3 p hp⟩,h.ne⟩
theorem VMC.put (h:VMC w vb mb n val C) (hC:C<100000) {p:Nat} (hp:p<100000) (q:Rat) :
 ∃w',(Instr.mapUpdate 69 (.map (some mb)) (.int .i64 (p:Int)) (qv q)).run Tryz.prog w=.ok () w'∧VMC w' vb mb n (fun x=>if x=p then q else val x) (C+1)∧w.grownBy w' (some mb):=by
 obtain⟨c,f,a1,a2,a3⟩:=h.m;obtain⟨w',r1,r2,r3⟩:=a1.put FX Fp Tryz.underlying69 (by unfold maxLen;omega) (Ey Tryz.underlying3 (a:=(p:Int)) (by omega) (by omega)) (qv q);refine⟨w',r1,⟨h.x.grown r3 (by simpa using h.ne),⟨_,_,r2,?_,fun x hx=>?_⟩,h.ne⟩,r3⟩
 · split<;>omega
 · by_cases e:x=p
   · subst e;rw[BQ,if_pos rfl]
   · rw[BF (by omega),if_neg e];exact a3 x hx
end
theorem inInt_kp {w w':World} {xs:List Nat} {A:Option Addr} {l:List Int} (h:InInt w A l) (hk:Kp xs w w') (hb:∀b o,A=some ⟨b,o,none⟩→b∉xs):InInt w' A l:=fun h0=>by
 obtain⟨b,o,e,hl,hc⟩:=h h0;have hbl:=hk.block b hl (hb b o e);exact⟨b,o,e,Nat.lt_of_lt_of_le hl hk.size,fun j hj=>(World.cell?_of_block (a:=⟨b,o+j,none⟩) hbl).trans (hc j hj)⟩
structure EntB (W:World) (B xb:Nat) (A:Option Addr) (c:Nat) (u:List Nat):Prop where
 x:Bk W xb 75 [.slice A u.length c,.slice none 0 0,.slice none 0 0]
 o:W.ownsRow B 3 1 (.slice A u.length c) u.length (BK u)
 nx:(Value.slice A u.length c).ownBlock≠some xb
section
variable {W W':World} {B xb c:Nat} {A:Option Addr} {u:List Nat}
theorem EntB.start (h:Bk W xb 75 [.slice none 0 0,.slice none 0 0,.slice none 0 0]):EntB W B xb none 0 [] :=
 ⟨h,World.ownsRow_nil _ _ _ _,by simp[Value.ownBlock]⟩
theorem EntB.below (h:EntB W B xb A c u) (hb:Below W.heap.size W W'):EntB W' B xb A c u:=⟨h.x.below hb,AX h.o hb,h.nx⟩
theorem EntB.inInt (h:EntB W B xb A c u):InInt W A (u.map fun(q:Nat)=>(q:Int)):=fun h0=>by
 rcases DU h.o with⟨e,e2⟩ | ⟨g,cap,e,h1,h2,_,h4⟩
 · rw[e2]at h0;simp at h0
 · injection e with e1 _ _;refine⟨g,0,e1,h2,fun j hj=>?_⟩;have hj':j<u.length:=by simpa using hj
   rw[List.getElem_map,Nat.zero_add];exact h4 j hj'
theorem EntB.blk (h:EntB W B xb A c u) (b o:Nat) (e:A=some ⟨b,o,none⟩):B≤b∧b<W.heap.size∧b≠xb:=by
 rcases DU h.o with⟨e1,_⟩ | ⟨g,cap,e1,h1,h2,_,_⟩
 · injection e1 with e1 _ _;rw[e]at e1;cases e1
 · injection e1 with e1 _ _;have hb:b=g:=by rw[e]at e1;injection e1 with e1;injection e1
   subst hb;have ho:o=0:=by rw[e]at e1;injection e1 with e1;injection e1
   subst ho;refine⟨h1,h2,fun hx=>h.nx ?_⟩;rw[e,←hx];rfl
theorem EntB.step (h:EntB W B xb A c u) {p:Nat} {v':Value} {w':World} (ho:w'.ownsRow B 3 1 v' (u.length+1) (BK u++[.int .i64 (p:Int)])) (hg:W.grownBy w' (Value.slice A u.length c).ownBlock)
 (hn:v'.ownBlock=(Value.slice A u.length c).ownBlock∨v'.ownBlock=some W.heap.size):∃A' c',v'=.slice A' (u.length+1) c'∧EntB (w'.setCell ⟨xb,0,none⟩ v') B xb A' c' (u++[p])∧Bk w' xb 75 [.slice A u.length c,.slice none 0 0,.slice none 0 0]:=by
 obtain⟨A',c',rfl⟩:=Ci.E9 ho;have hx:=h.x.grown hg fun e=>h.nx e.symm
 have hnx:(Value.slice A' (u.length+1) c').ownBlock≠some xb:=fun e=>by
  rcases hn with c1 | c1
  · exact h.nx (c1▸e)
  · rw[c1]at e;cases e;exact absurd h.x.lt (Nat.lt_irrefl _)
 have hl:(u++[p]).length=u.length+1:=by simp
 refine⟨A',c',rfl,⟨?_,?_,?_⟩,hx⟩
 · rw[hl];exact hx.set 0 _
 · rw[hl,Fv];exact Ni ho ((Kp.refl [xb] w').set _ (.inl (by simp))) (fun b e hb=>hnx (by rw[e,List.mem_singleton.1 hb]))
 · rw[hl];exact hnx
end
structure Ent where
 x:Nat
 A:Option Addr
 c:Nat
 u:List Nat
def Ent.pt (e:Ent):Value:=.pointer (some ⟨e.x,0,none⟩)
structure SyM (W:World) (B:Nat) (v:Value) (E:List Ent):Prop where
 row:W.ownsRow B 72 1 v E.length (E.map Ent.pt)
 ent:∀e,e∈E→Bk W e.x 75 [.slice e.A e.u.length e.c,.slice none 0 0,.slice none 0 0]∧InInt W e.A (e.u.map fun(q:Nat)=>(q:Int))∧B≤e.x
 blk:∀e,e∈E→∀b o,e.A=some ⟨b,o,none⟩→B≤b∧b<W.heap.size∧∀f,f∈E→b≠f.x
 nd:(E.map Ent.x).Nodup
 rb:∀b,v.ownBlock=some b→∀e,e∈E→b≠e.x∧∀o,e.A≠some ⟨b,o,none⟩
section
variable {W W':World} {B:Nat} {v:Value} {E:List Ent}
theorem SyM.start (W:World) (B:Nat):SyM W B (.slice none 0 0) [] :=
 ⟨World.ownsRow_nil _ _ _ _,(fun e h=>by cases h),(fun e h=>by cases h),List.nodup_nil,fun b e=>by cases e⟩
theorem SyM.below (h:SyM W B v E) (hb:Below W.heap.size W W'):SyM W' B v E :=
 ⟨AX h.row hb,fun e he=>⟨(h.ent e he).1.below hb,(h.ent e he).2.1.below hb,(h.ent e he).2.2⟩,fun e he b o q=>by
   obtain⟨h1,h2,h3⟩:=h.blk e he b o q;exact⟨h1,Nat.lt_of_lt_of_le h2 hb.size,h3⟩,h.nd,h.rb⟩
theorem SyM.add {W2 W3:World} {v':Value} {e:Ent} (h:SyM W B v E) (hB:B≤W.heap.size) (hb:Below W.heap.size W W2) (hx:Bk W2 e.x 75 [.slice e.A e.u.length e.c,.slice none 0 0,.slice none 0 0]) (hi:InInt W2 e.A (e.u.map fun(q:Nat)=>(q:Int)))
 (hn:W.heap.size≤e.x) (hA:∀b o,e.A=some ⟨b,o,none⟩→W.heap.size≤b∧b<W2.heap.size∧b≠e.x)
 (ho:W3.ownsRow B 72 1 v' (E.length+1) (E.map Ent.pt++[e.pt])) (hg:W2.grownBy W3 v.ownBlock) (hv:v'.ownBlock=v.ownBlock∨∃b,v'.ownBlock=some b∧W2.heap.size≤b):SyM W3 B v' (E++[e]):=by
 have h2:=h.below hb;have rlt:∀b,v.ownBlock=some b→b<W.heap.size:=fun b q=>(h.row.lt b q).2;have xlt:∀f,f∈E→f.x<W.heap.size:=fun f hf=>(h.ent f hf).1.lt;have key:∀f,f∈E++[e]→f∈E∨f=e:=fun f hf=>by simpa using hf
 refine⟨by rw[List.length_append,List.map_append];exact ho,fun f hf=>?_,fun f hf b o q=>?_,?_,fun b q f hf=>?_⟩
 · rcases key f hf with c | rfl
   · obtain⟨e1,e2,e3⟩:=h2.ent f c;refine⟨e1.grown hg fun q=>(h.rb _ q.symm f c).1 rfl,fun h0=>?_,e3⟩;obtain⟨b,o,q,hl,hc⟩:=e2 h0;refine⟨b,o,q,Nat.lt_of_lt_of_le hl hg.size,fun j hj=>(World.cell?_of_block (a:=⟨b,o+j,none⟩) (hg.block b hl fun z=>?_)).trans (hc j hj)⟩;exact(h.rb b z.symm f c).2 o q
   · refine ⟨hx.grown hg fun q=>?_,fun h0=>?_,Nat.le_trans hB hn⟩
     · have:=rlt _ q.symm;omega
     · obtain⟨b,o,q,hl,hc⟩:=hi h0;refine⟨b,o,q,Nat.lt_of_lt_of_le hl hg.size,fun j hj=>(World.cell?_of_block (a:=⟨b,o+j,none⟩) (hg.block b hl fun z=>?_)).trans (hc j hj)⟩;have:=rlt _ z.symm;have:=(hA b o q).1;omega
 · rcases key f hf with c | rfl
   · obtain⟨e1,e2,e3⟩:=h.blk f c b o q;refine⟨e1,Nat.lt_of_lt_of_le e2 (Nat.le_trans hb.size hg.size),fun g hgm=>?_⟩
     rcases key g hgm with d | rfl
     · exact e3 g d
     · omega
   · obtain⟨e1,e2,e3⟩:=hA b o q;refine⟨by omega,Nat.lt_of_lt_of_le e2 hg.size,fun g hgm=>?_⟩
     rcases key g hgm with d | rfl
     · have:=xlt g d;omega
     · exact e3
 · rw[List.map_append,List.map_singleton];refine List.nodup_append.2 ⟨h.nd,by simp,fun a ha b hb2=>?_⟩;obtain⟨f,hf,rfl⟩:=List.mem_map.1 ha;rw[List.mem_singleton.1 hb2];have:=xlt f hf;omega
 · have hbk:v.ownBlock=some b∨W2.heap.size≤b:=by
    rcases hv with c | ⟨b2,c,d⟩
    · exact .inl (c▸q)
    · rw[c]at q;cases q;exact .inr d
   have hex:e.x<W2.heap.size:=hx.lt;have hws:=hb.size
   rcases key f hf with c | rfl
   · rcases hbk with d | d
     · exact h.rb b d f c
     · refine⟨by have:=xlt f c;omega,fun o z=>?_⟩;have:=(h.blk f c b o z).2.1;omega
   · rcases hbk with d | d
     · have hlb:=rlt b d;refine⟨by omega,fun o z=>?_⟩;have:=(hA b o z).1;omega
     · refine⟨by omega,fun o z=>?_⟩;have:=(hA b o z).2.1;omega
end
end Sh
end
section
open Go.RowKit Go.Shelf
namespace Sh
open Nt Ci
theorem Rh (k:Int) (q:Rat) (hq:(k:Rat)=q) (hk:-10≤k∧k≤10) (w:World) (hE:Env w) :
 Calls Tryz.prog 53 #[.int .i64 k] w fun e w'=>e=.returned (.agg #[.bool (rq q).1,.string (rq q).2.1,.string (rq q).2.2])∧Below w.heap.size w w':=FL k q hq hk w hE
theorem Nl {w:World} {vb mb n C:Nat} {val:Nat→Rat} (h:VMC w vb mb n val C) (hC:C<100000) {p:Nat} (hp:p<100000) (q:Rat) :
 ∃w',(Instr.mapUpdate 69 (.map (some mb)) (.int .i64 (p:Int)) (.agg #[.bool (rq q).1,.string (rq q).2.1,.string (rq q).2.2])).run Tryz.prog w=.ok () w'∧VMC w' vb mb n (fun x=>if x=p then q else val x) (C+1)∧w.grownBy w' (some mb):=h.put hC hp q
noncomputable def efR (j:Nat):Code:=((Tryz.f20.body.map Ci.Bt).bind fun l=>l.find? (Mm j)).getD .skip
theorem ef9 {c0 c1 c2 c3 c4 c5 c6 c7 c8 c9 c11 c13 c14 c15 c16 c17 c18 c19 c20 c21 c22 c23 c24 c25 c26 c27 c28 c29 c30 c31 c32 c33 c34 c35 c36 c37 c38 c39 c40 c41 c42 c43 c44 c45 c46 c47 c48 c49 c50 c51 c52 c53 c54 c55 c56 c57 c61 c62 c63 c64 c65 c66 c67 c68 c69 c70 c71 c72 c73 c74 c75 c76 c77 c78 c79 c80 c81 c82 c83 c84 c85 c86 c87 c88 c89 c90 c91 c92 c93 c94 c95 c96 c97 c98 c99 c100 c101 c102 c103 c104 c105 c106 c107 c108 c109 c110 c111 c112 c113 c114 c115 c116 c117 c118 c119 c120 c121 c122 c123 c124 c125 c126 c127 c128 c129 c130 c131 c132 c133 c134 c135 c136 c137 c138 c139 c140 c141 c142 c143 c144 c145 c146 c147 c148 c149 c150 c151 c152 c153 c154 c155 c156 c157 c158 c159 c160 c161 c162 c163 c164 c165 c166 c167 c168 c169 c170 c171 c172 c173 c174 c175 c176 c177 a58 a59 a60:Value} {Q:Exit→Act→World→Prop} (vb mb n C p:Nat) (val:Nat→Rat) (w:World) (hE:Env w) (hV:VMC w vb mb n val C) (hC:C<100000) (hp:p<100000)
 (h:∀(u58 u59 u60:Value) (W:World) (_:Hid (VMC W vb mb n (fun x=>if x=p then 1 else val x) (C+1))) (_:Hid (Kp [mb] w W)),Q .normal ⟨#[c0,c1,c2,c3,c4,c5,c6,c7,c8,c9,.pointer (some ⟨vb,0,none⟩),c11,.int .i64 (p:Int),c13,c14,c15,c16,c17,c18,c19,c20,c21,c22,c23,c24,c25,c26,c27,c28,c29,c30,c31,c32,c33,c34,c35,c36,c37,c38,c39,c40,c41,c42,c43,c44,c45,c46,c47,c48,c49,c50,c51,c52,c53,c54,c55,c56,c57,u58,u59,u60,c61,c62,c63,c64,c65,c66,c67,c68,c69,c70,c71,c72,c73,c74,c75,c76,c77,c78,c79,c80,c81,c82,c83,c84,c85,c86,c87,c88,c89,c90,c91,c92,c93,c94,c95,c96,c97,c98,c99,c100,c101,c102,c103,c104,c105,c106,c107,c108,c109,c110,c111,c112,c113,c114,c115,c116,c117,c118,c119,c120,c121,c122,c123,c124,c125,c126,c127,c128,c129,c130,c131,c132,c133,c134,c135,c136,c137,c138,c139,c140,c141,c142,c143,c144,c145,c146,c147,c148,c149,c150,c151,c152,c153,c154,c155,c156,c157,c158,c159,c160,c161,c162,c163,c164,c165,c166,c167,c168,c169,c170,c171,c172,c173,c174,c175,c176,c177],[]⟩ W) :
 Code.wp Tryz.prog (efR 9) Q ⟨#[c0,c1,c2,c3,c4,c5,c6,c7,c8,c9,.pointer (some ⟨vb,0,none⟩),c11,.int .i64 (p:Int),c13,c14,c15,c16,c17,c18,c19,c20,c21,c22,c23,c24,c25,c26,c27,c28,c29,c30,c31,c32,c33,c34,c35,c36,c37,c38,c39,c40,c41,c42,c43,c44,c45,c46,c47,c48,c49,c50,c51,c52,c53,c54,c55,c56,c57,a58,a59,a60,c61,c62,c63,c64,c65,c66,c67,c68,c69,c70,c71,c72,c73,c74,c75,c76,c77,c78,c79,c80,c81,c82,c83,c84,c85,c86,c87,c88,c89,c90,c91,c92,c93,c94,c95,c96,c97,c98,c99,c100,c101,c102,c103,c104,c105,c106,c107,c108,c109,c110,c111,c112,c113,c114,c115,c116,c117,c118,c119,c120,c121,c122,c123,c124,c125,c126,c127,c128,c129,c130,c131,c132,c133,c134,c135,c136,c137,c138,c139,c140,c141,c142,c143,c144,c145,c146,c147,c148,c149,c150,c151,c152,c153,c154,c155,c156,c157,c158,c159,c160,c161,c162,c163,c164,c165,c166,c167,c168,c169,c170,c171,c172,c173,c174,c175,c176,c177],[]⟩ w:=by
 conv=>arg 2;whnf
 conv=>arg 4;zeta
 replace h:=zh h;have hB1:Hid (Below w.heap.size w w.drew):=(Below.refl _ w).drew;have kn:=zh (fun W hW=>Rh 1 1 (by decide +kernel) (by omega) W hW);have hx1:Hid (w.drew.cell? ⟨vb,0,none⟩=some (.map (some mb))):=(hV.below (Below.refl _ w).drew).x.c0;replace hE:=zh hE;replace hV:=zh hV;refine wp_region_noPanic ?_;refine wp_region_held_drew (S:=fun W=>W.cell? ⟨vb,0,none⟩=some (.map (some mb))) (by kernel_rfl) (hx1.out) (fun hS0=>?_);replace hS0:=zh hS0;refine tkbI (v:=?_) 0 rfl (hS0.out) (Or.inl ⟨by rfl,?_⟩) ?_;rotate_left
 · (intro w hSw;obtain q1:=hSw;go_simp<;>with_reducible rfl)
 try simp only[Act.put,List.setIfInBounds_toArray]
 refine tkbI (v:=?_) 1 rfl (hS0.out) (Or.inl ⟨by rfl,?_⟩) ?_;rotate_left
 · (intro w hSw;obtain q1:=hSw;go_simp<;>with_reducible rfl)
 try simp only[Act.put]
 refine wpAnyH_ready (rs:=[2]) (by kernel_rfl) (by simp) ?_;refine AllReadyH.cons (o:=_) rfl (fun K hK=>?_) ?_
 · go_simp;refine(kn.out _ (hE.out.below hB1.out)).mono ?_;rintro e W2 ⟨rfl,hb⟩;have hB2:Hid (Below w.heap.size w W2):=hB1.out.trans (hb.mono hB1.out.size);have hV2:Hid (VMC W2 vb mb n val C):=hV.out.below hB2.out;clear hb;refine hK.out _ _ (hV2.out.x.c0) (fun _=>?_);clear hK K
   try simp only[Act.put,List.setIfInBounds_toArray,List.set_cons_zero,List.set_cons_succ]
   obtain⟨W3,hrun,hV3,hg⟩:=Nl hV2.out hC hp 1;have hK3:Hid (Kp [mb] w W3):=((Kp.refl [mb] w).below hB2.out).grown hg (fun b e=>.inl (by cases e;simp));replace hV3:=zh hV3;clear hg;refine wpAnyH_ready (rs:=[3]) (by kernel_rfl) (by simp) ?_;refine AllReadyH.cons (o:=_) rfl (fun K hK=>?_) ?_
   · go_simp;refine hK.out _ _ (hV3.out.x.c0) (fun _=>?_);clear hK K
     try simp only[Act.put,List.setIfInBounds_toArray,List.set_cons_zero,List.set_cons_succ]
     refine wpAnyH_done (by kernel_rfl) ?_ _;refine NoPanic.normal ?_;exact h.out _ _ _ _ hV3 hK3
   exact AllReadyH.nil
 exact AllReadyH.nil
theorem Ve {c0 c1 c2 c3 c4 c5 c6 c7 c8 c9 c11 c12 c13 c14 c15 c16 c17 c18 c19 c20 c21 c23 c24 c27 c28 c29 c30 c31 c32 c33 c34 c35 c36 c37 c38 c39 c40 c41 c42 c43 c44 c45 c46 c47 c48 c49 c50 c51 c52 c53 c54 c55 c56 c57 c58 c59 c60 c61 c62 c63 c64 c65 c66 c67 c68 c69 c70 c71 c72 c73 c74 c75 c76 c77 c78 c79 c80 c81 c82 c83 c84 c85 c86 c87 c88 c89 c90 c91 c92 c93 c94 c95 c96 c97 c98 c99 c100 c101 c102 c103 c104 c105 c106 c107 c108 c109 c110 c111 c112 c113 c114 c115 c116 c117 c118 c119 c120 c121 c122 c123 c124 c125 c126 c127 c128 c129 c130 c131 c132 c133 c134 c135 c136 c137 c138 c139 c140 c141 c142 c143 c144 c145 c146 c147 c148 c149 c159 c160 c161 c162 c163 c164 c165 c166 c167 c168 c169 c170 c171 c172 c173 c174 c175 c176 c177 a150 a151 a152 a153 a154 a155 a156 a157 a158:Value} {Q:Exit→Act→World→Prop} (vb mb n C p xb ub uo m cu i lb:Nat) (q:Rat) (val:Nat→Rat) (w:World) (hV:VMC w vb mb n val C) (hC:C<100000) (hp:p<100000) (hi:i<m) (hx:w.cell? ⟨xb,0,none⟩=some (.slice (some ⟨ub,uo,none⟩) m cu)) (hxl:xb<w.heap.size) (hu:w.cell? ⟨ub,uo+i,none⟩=some (.int .i64 (p:Int))) (hul:ub<w.heap.size) (hl:Bk w lb 40 [.bool (rq q).1,.string (rq q).2.1,.string (rq q).2.2]) (n1:xb≠mb) (n2:ub≠mb) (n3:lb≠mb)
 (h:∀(u150 u151 u152 u153 u154 u155 u156 u157 u158:Value) (W:World) (_:Hid (VMC W vb mb n (fun x=>if x=p then q else val x) (C+1))) (_:Hid (Kp [mb] w W)),Q .normal ⟨#[c0,c1,c2,c3,c4,c5,c6,c7,c8,c9,.pointer (some ⟨vb,0,none⟩),c11,c12,c13,c14,c15,c16,c17,c18,c19,c20,c21,.pointer (some ⟨xb,0,none⟩),c23,c24,.int .i64 (i:Int),.pointer (some ⟨lb,0,none⟩),c27,c28,c29,c30,c31,c32,c33,c34,c35,c36,c37,c38,c39,c40,c41,c42,c43,c44,c45,c46,c47,c48,c49,c50,c51,c52,c53,c54,c55,c56,c57,c58,c59,c60,c61,c62,c63,c64,c65,c66,c67,c68,c69,c70,c71,c72,c73,c74,c75,c76,c77,c78,c79,c80,c81,c82,c83,c84,c85,c86,c87,c88,c89,c90,c91,c92,c93,c94,c95,c96,c97,c98,c99,c100,c101,c102,c103,c104,c105,c106,c107,c108,c109,c110,c111,c112,c113,c114,c115,c116,c117,c118,c119,c120,c121,c122,c123,c124,c125,c126,c127,c128,c129,c130,c131,c132,c133,c134,c135,c136,c137,c138,c139,c140,c141,c142,c143,c144,c145,c146,c147,c148,c149,u150,u151,u152,u153,u154,u155,u156,u157,u158,c159,c160,c161,c162,c163,c164,c165,c166,c167,c168,c169,c170,c171,c172,c173,c174,c175,c176,c177],[]⟩ W) :
 Code.wp Tryz.prog (efR 40) Q ⟨#[c0,c1,c2,c3,c4,c5,c6,c7,c8,c9,.pointer (some ⟨vb,0,none⟩),c11,c12,c13,c14,c15,c16,c17,c18,c19,c20,c21,.pointer (some ⟨xb,0,none⟩),c23,c24,.int .i64 (i:Int),.pointer (some ⟨lb,0,none⟩),c27,c28,c29,c30,c31,c32,c33,c34,c35,c36,c37,c38,c39,c40,c41,c42,c43,c44,c45,c46,c47,c48,c49,c50,c51,c52,c53,c54,c55,c56,c57,c58,c59,c60,c61,c62,c63,c64,c65,c66,c67,c68,c69,c70,c71,c72,c73,c74,c75,c76,c77,c78,c79,c80,c81,c82,c83,c84,c85,c86,c87,c88,c89,c90,c91,c92,c93,c94,c95,c96,c97,c98,c99,c100,c101,c102,c103,c104,c105,c106,c107,c108,c109,c110,c111,c112,c113,c114,c115,c116,c117,c118,c119,c120,c121,c122,c123,c124,c125,c126,c127,c128,c129,c130,c131,c132,c133,c134,c135,c136,c137,c138,c139,c140,c141,c142,c143,c144,c145,c146,c147,c148,c149,a150,a151,a152,a153,a154,a155,a156,a157,a158,c159,c160,c161,c162,c163,c164,c165,c166,c167,c168,c169,c170,c171,c172,c173,c174,c175,c176,c177],[]⟩ w:=by
 conv=>arg 2;whnf
 conv=>arg 4;zeta
 replace h:=zh h;have hS1:Hid (w.drew.cell? ⟨vb,0,none⟩=some (.map (some mb))∧w.drew.cell? ⟨xb,0,none⟩=some (.slice (some ⟨ub,uo,none⟩) m cu)∧w.drew.cell? ⟨ub,uo+i,none⟩=some (.int .i64 (p:Int))∧w.drew.cell? ⟨lb,0,none⟩=some (.bool (rq q).1)∧w.drew.cell? ⟨lb,1,none⟩=some (.string (rq q).2.1)∧w.drew.cell? ⟨lb,2,none⟩=some (.string (rq q).2.2)):=⟨hV.x.c0,hx,hu,hl.c0,hl.c1,hl.c2⟩;have j0:(0:Int)≤(i:Int):=by omega
 have j1:(i:Int)<(m:Int):=by omega
 obtain⟨W3,hrun,hV3,hg⟩:=Nl (w:=w.drew) (hV.below (Below.refl _ w).drew) hC hp q;have hK3:Hid (Kp [mb] w W3):=((Kp.refl [mb] w).drew).grown hg (fun b e=>.inl (by cases e;simp));have hS3:Hid (W3.cell? ⟨vb,0,none⟩=some (.map (some mb))∧W3.cell? ⟨xb,0,none⟩=some (.slice (some ⟨ub,uo,none⟩) m cu)∧W3.cell? ⟨ub,uo+i,none⟩=some (.int .i64 (p:Int))∧W3.cell? ⟨lb,0,none⟩=some (.bool (rq q).1)∧W3.cell? ⟨lb,1,none⟩=some (.string (rq q).2.1)∧W3.cell? ⟨lb,2,none⟩=some (.string (rq q).2.2)):=⟨hV3.x.c0,(World.cell?_of_block (a:=⟨xb,0,none⟩) (hK3.out.block xb hxl (by simpa using n1))).trans hx,(World.cell?_of_block (a:=⟨ub,uo+i,none⟩) (hK3.out.block ub hul (by simpa using n2))).trans hu,(hl.kp hK3.out (by simpa using n3)).c0,(hl.kp hK3.out (by simpa using n3)).c1,(hl.kp hK3.out (by simpa using n3)).c2⟩;have xl1:xb<w.drew.heap.size:=hxl;have ul1:ub<w.drew.heap.size:=hul;have ll1:lb<w.drew.heap.size:=hl.lt;replace hV:=zh hV;replace hl:=zh hl;replace hV3:=zh hV3;replace hx:=zh hx;replace hu:=zh hu;clear hg;refine wp_region_noPanic ?_;refine wp_region_held_drew (S:=fun W=>W.cell? ⟨vb,0,none⟩=some (.map (some mb))∧W.cell? ⟨xb,0,none⟩=some (.slice (some ⟨ub,uo,none⟩) m cu)∧W.cell? ⟨ub,uo+i,none⟩=some (.int .i64 (p:Int))∧W.cell? ⟨lb,0,none⟩=some (.bool (rq q).1)∧W.cell? ⟨lb,1,none⟩=some (.string (rq q).2.1)∧W.cell? ⟨lb,2,none⟩=some (.string (rq q).2.2)) (by kernel_rfl) (hS1.out) (fun hS0=>?_);replace hS0:=zh hS0;refine tkbI (v:=?_) 0 rfl (hS0.out) (Or.inl ⟨by rfl,?_⟩) ?_;rotate_left
 · (intro w hSw;obtain⟨q1,q2,q3,q4,q5,q6⟩:=hSw;go_simp<;>with_reducible rfl)
 try simp only[Act.put,List.setIfInBounds_toArray]
 refine tkbI (v:=?_) 1 rfl (hS0.out) (Or.inl ⟨by rfl,?_⟩) ?_;rotate_left
 · (intro w hSw;obtain⟨q1,q2,q3,q4,q5,q6⟩:=hSw;go_simp<;>with_reducible rfl)
 try simp only[Act.put]
 refine tkbI (v:=?_) 2 rfl (hS0.out) (Or.inl ⟨by rfl,?_⟩) ?_;rotate_left
 · (intro w hSw;obtain⟨q1,q2,q3,q4,q5,q6⟩:=hSw;go_simp<;>with_reducible rfl)
 try simp only[Act.put]
 refine tkbI (v:=?_) 3 rfl (hS0.out) (Or.inl ⟨by rfl,?_⟩) ?_;rotate_left
 · (intro w hSw;obtain⟨q1,q2,q3,q4,q5,q6⟩:=hSw;go_simp<;>with_reducible rfl)
 try simp only[Act.put]
 refine tkbI (v:=?_) 4 rfl (hS0.out) (Or.inl ⟨by rfl,?_⟩) ?_;rotate_left
 · (intro w hSw;obtain⟨q1,q2,q3,q4,q5,q6⟩:=hSw;go_simp<;>with_reducible rfl)
 try simp only[Act.put]
 refine tkbI (v:=?_) 5 rfl (hS0.out) (Or.inl ⟨by rfl,?_⟩) ?_;rotate_left
 · (intro w hSw;obtain⟨q1,q2,q3,q4,q5,q6⟩:=hSw;go_simp<;>with_reducible rfl)
 try simp only[Act.put]
 refine tkbI (v:=?_) 6 rfl (hS0.out) (Or.inl ⟨by rfl,?_⟩) ?_;rotate_left
 · (intro w hSw;obtain⟨q1,q2,q3,q4,q5,q6⟩:=hSw;go_simp<;>with_reducible rfl)
 try simp only[Act.put]
 refine tkbI (v:=?_) 7 rfl (hS0.out) (Or.inl ⟨by rfl,?_⟩) ?_;rotate_left
 · (intro w hSw;obtain⟨q1,q2,q3,q4,q5,q6⟩:=hSw;go_simp<;>with_reducible rfl)
 try simp only[Act.put]
 refine tkbI (v:=?_) 8 rfl (hS0.out) (Or.inl ⟨by rfl,?_⟩) ?_;rotate_left
 · (intro w hSw;obtain⟨q1,q2,q3,q4,q5,q6⟩:=hSw;go_simp<;>with_reducible rfl)
 try simp only[Act.put]
 refine wpAnyH_ready (rs:=[9]) (by kernel_rfl) (by simp) ?_;refine AllReadyH.cons (o:=_) rfl (fun K hK=>?_) ?_
 · go_simp;refine hK.out _ _ (hS3.out) (fun _=>?_);clear hK K
   try simp only[Act.put,List.setIfInBounds_toArray,List.set_cons_zero,List.set_cons_succ]
   refine wpAnyH_done (by kernel_rfl) ?_ _;refine NoPanic.normal ?_;exact h.out _ _ _ _ _ _ _ _ _ _ hV3 hK3
 exact AllReadyH.nil
end Sh
end
section
namespace Ci
def DY (E:List (Nat×Nat)):Nat→Nat→Nat→Prop
 | 0,i,j=>i=j∨(i,j)∈E
 | k+1,i,j=>DY E k i j∨(DY E k i k∧DY E k k j)
section
variable {E:List (Nat×Nat)} {n i j k m:Nat}
theorem IU:∀k,DY E k i i
 | 0=>.inl rfl
 | k+1=>.inl (IU k)
theorem Nm:DY E (k+1) i k↔DY E k i k:=⟨fun h=>h.elim id fun h=>h.1,.inl⟩
theorem KQ:DY E (k+1) k j↔DY E k k j:=⟨fun h=>h.elim id fun h=>h.2,.inl⟩
theorem Mv:∀k m i j,m<k→DY E k i m→DY E k m j→DY E k i j:=by
 intro k
 induction k with
 | zero=>intro m i j h;omega
 | succ k ih =>
   intro m i j hm h1 h2
   by_cases e:m=k
   · subst e;exact .inr ⟨Nm.1 h1,KQ.1 h2⟩
   · have hmk:m<k:=by omega
     rcases h1 with h1 | ⟨h1,h3⟩
     · rcases h2 with h2 | ⟨h2,h4⟩
       · exact .inl (ih m i j hmk h1 h2)
       · exact .inr ⟨ih m i k hmk h1 h2,h4⟩
     · rcases h2 with h2 | ⟨_,h4⟩
       · exact .inr ⟨h1,ih m k j hmk h3 h2⟩
       · exact .inr ⟨h1,h4⟩
theorem Mw:∀k i j,DY E k i j→Reach E i j:=by
 intro k
 induction k with
 | zero =>
   rintro i j (rfl | h)
   · exact .refl _
   · exact .one h
 | succ k ih =>
   rintro i j (h | ⟨h1,h2⟩)
   · exact ih i j h
   · exact(ih i k h1).trans (ih k j h2)
theorem IV (h:DY E 0 i j):∀k,DY E k i j
 | 0=>h
 | k+1=>.inl (IV h k)
theorem Ri (hE:InN n E):DY E n i j↔Reach E i j:=by
 constructor
 · exact Mw n i j
 · intro h;refine h.closed (C:=fun x=>DY E n i x) (IU n) fun a b ha e=>?_;exact Mv n a i b (hE _ e).1 ha (IV (.inr e) n)
def Tab (E:List (Nat×Nat)) (n k i j:Nat) (T:Nat→Nat→Prop):Prop :=
 ∀a b,a<n→b<n→(T a b↔if a<i∨(a=i∧b<j) then DY E (k+1) a b else DY E k a b)
theorem Tab.row {T:Nat→Nat→Prop} (h:Tab E n k i j T) (hk:k<n) {a:Nat} (ha:a<n):T a k↔DY E k a k:=by
 rw[h a k ha hk]
 split
 · exact Nm
 · exact Iff.rfl
theorem Tab.col {T:Nat→Nat→Prop} (h:Tab E n k i j T) (hk:k<n) {b:Nat} (hb:b<n):T k b↔DY E k k b:=by
 rw[h k b hk hb]
 split
 · exact KQ
 · exact Iff.rfl
theorem Tab.step {T T':Nat→Nat→Prop} (h:Tab E n k i j T) (hk:k<n) (hi:i<n) (hj:j<n) (hT:∀a b,T' a b↔T a b∨(a=i∧b=j∧T i k∧T k j)):Tab E n k i (j+1) T':=by
 intro a b ha hb;rw[hT]
 by_cases e:a=i∧b=j
 · obtain⟨rfl,rfl⟩:=e;rw[if_pos (by omega),h.row hk ha,h.col hk hb,h a b ha hb,if_neg (by omega)];exact⟨fun c=>c.elim .inl fun c=>.inr c.2.2,fun c=>c.elim .inl fun c=>.inr ⟨rfl,rfl,c⟩⟩
 · rw [h a b ha hb];have e2:¬(a=i∧b=j∧T i k∧T k j):=fun c=>e ⟨c.1,c.2.1⟩
   by_cases c:a<i∨(a=i∧b<j)
   · rw[if_pos c,if_pos (by omega)];exact⟨fun x=>x.elim id fun y=>absurd y e2,.inl⟩
   · rw[if_neg c,if_neg (by omega)];exact⟨fun x=>x.elim id fun y=>absurd y e2,.inl⟩
theorem Tab.next {T:Nat→Nat→Prop} (h:Tab E n k i n T):Tab E n k (i+1) 0 T:=by
 intro a b ha hb;rw[h a b ha hb]
 by_cases c:a<i∨(a=i∧b<n)
 · rw[if_pos c,if_pos (by omega)]
 · rw[if_neg c,if_neg (by omega)]
theorem Tab.round {T:Nat→Nat→Prop} (h:Tab E n k n 0 T):Tab E n (k+1) 0 0 T:=by
 intro a b ha hb;rw[h a b ha hb,if_pos (.inl ha),if_neg (by omega)]
theorem Tab.end {T:Nat→Nat→Prop} (h:Tab E n n 0 0 T) (hE:InN n E) {a b:Nat} (ha:a<n) (hb:b<n):T a b↔Reach E a b:=by
 rw[h a b ha hb,if_neg (by omega)];exact Ri hE
end
end Ci
end
section
namespace Ci
open Classical
section
variable {E:List (Nat×Nat)} {n p q x:Nat}
def KR (E:List (Nat×Nat)):List (Nat×Nat):=E.map fun e=>(e.2,e.1)
theorem EE:(p,q)∈KR E↔(q,p)∈E:=by
 unfold KR;rw[List.mem_map];constructor
 · rintro⟨⟨a,b⟩,h,e⟩;simp only[Prod.mk.injEq]at e;rw[←e.1,←e.2];exact h
 · exact fun h=>⟨(q,p),h,rfl⟩
theorem SY (h:InN n E):InN n (KR E):=fun x hx=>by
 obtain⟨a,b⟩:=x;have:=h _ (EE.1 hx);exact⟨this.2,this.1⟩
theorem My (h:Reach E p q):Reach (KR E) q p :=
 h.closed (C:=fun x=>Reach (KR E) x p) (.refl p) fun _ _ ha e=>(Reach.one (EE.2 e)).trans ha
theorem IW:Reach (KR E) p q↔Reach E q p:=⟨fun h=>h.closed (C:=fun x=>Reach E x p) (.refl p) fun _ _ ha e=>(Reach.one (EE.1 e)).trans ha,My⟩
def PL (E:List (Nat×Nat)) (p q x:Nat):Prop:=fst E x<p∨(Mut E p x∧x<q)
noncomputable def lsO (E:List (Nat×Nat)) (n p x:Nat):List Nat:=if x<p∧fst E x=x then CE n E x else []
noncomputable def Ag (E:List (Nat×Nat)) (p q:Nat):List Nat:=(List.range q).filter fun y=>decide (Mut E p y)
noncomputable def lsQ (E:List (Nat×Nat)) (n p q x:Nat):List Nat:=if x=p then Ag E p q else lsO E n p x
noncomputable def cO (E:List (Nat×Nat)) (p:Nat):Nat:=((List.range p).filter fun y=>decide (fst E y=y)).length
noncomputable def cQ (E:List (Nat×Nat)) (p q:Nat):Nat:=if Ag E p q=[] then cO E p else cO E p+1
theorem Nn (hp:p<n):CE n E p≠[]:=fun h=>by
 have:=C6.2 ⟨hp,Mut.refl (E:=E) p⟩;rw[h]at this
 cases this
theorem IX:Ag E p 0=[]:=rfl
theorem EQ:Ag E p (q+1)=if Mut E p q then Ag E p q++[q] else Ag E p q:=by
 unfold Ag;rw[List.range_succ,List.filter_append,List.filter_cons]
 by_cases h:Mut E p q
 · rw[if_pos h,if_pos (decide_eq_true h)];rfl
 · rw[if_neg h,if_neg (by rw[decide_eq_false h];simp)];simp
theorem KS:Ag E p n=CE n E p:=rfl
theorem DZ:lsQ E n p 0 x=lsO E n p x:=by
 unfold lsQ
 by_cases e:x=p
 · rw[if_pos e,IX];unfold lsO;rw[if_neg (by omega)]
 · rw[if_neg e]
theorem Rj (h:¬Mut E p q):lsQ E n p (q+1) x=lsQ E n p q x:=by
 unfold lsQ;rw[EQ,if_neg h]
theorem Rk (h:Mut E p q):lsQ E n p (q+1) x=if x=p then lsQ E n p q x++[q] else lsQ E n p q x:=by
 unfold lsQ;rw[EQ,if_pos h]
 by_cases e:x=p
 · rw[if_pos e,if_pos e,if_pos e]
 · rw[if_neg e,if_neg e,if_neg e]
theorem FO:cQ E p 0=cO E p:=if_pos rfl
theorem SZ (h:¬Mut E p q):cQ E p (q+1)=cQ E p q:=by unfold cQ;rw[EQ,if_neg h]
theorem Ta (h:Mut E p q):cQ E p (q+1)=if lsQ E n p q p=[] then cQ E p q+1 else cQ E p q:=by
 unfold cQ lsQ;rw[EQ,if_pos h,if_neg (by simp),if_pos rfl]
 by_cases e:Ag E p q=[]
 · rw[if_pos e,if_pos e]
 · rw[if_neg e,if_neg e]
theorem JC (h:¬Mut E p q):PL E p (q+1) x↔PL E p q x:=by
 unfold PL;constructor
 · rintro (a | ⟨a,b⟩)
   · exact .inl a
   · by_cases e:x=q
     · subst e;exact absurd a h
     · exact .inr ⟨a,by omega⟩
 · rintro(a | ⟨a,b⟩)
   · exact .inl a
   · exact .inr ⟨a,by omega⟩
theorem GV (h:Mut E p q):PL E p (q+1) x↔PL E p q x∨x=q:=by
 unfold PL;constructor
 · rintro (a | ⟨a,b⟩)
   · exact .inl (.inl a)
   · by_cases e:x=q
     · exact .inr e
     · exact .inl (.inr ⟨a,by omega⟩)
 · rintro((a | ⟨a,b⟩) | e)
   · exact .inl a
   · exact .inr ⟨a,by omega⟩
   · subst e;exact .inr ⟨h,by omega⟩
theorem Eo:PL E p 0 x↔fst E x<p:=⟨fun h=>h.elim id fun h=>absurd h.2 (Nat.not_lt_zero _),.inl⟩
theorem Rl:PL E p 0 p↔fst E p≠p:=by
 have:=Jf (Mut.refl (E:=E) p);rw[Eo];omega
theorem Mz (h:fst E p≠p):PL E (p+1) 0 x↔PL E p 0 x:=by
 rw[Eo,Eo];constructor
 · intro h1
   by_cases e:fst E x=p
   · exact absurd (by rw[←e,Fx]) h
   · omega
 · omega
theorem JD (h:fst E p=p) (hx:x<n):PL E (p+1) 0 x↔PL E p n x:=by
 rw[Eo];unfold PL;constructor
 · intro h1
   by_cases e:fst E x=p
   · exact .inr ⟨GL.1 (by rw[e,h]),hx⟩
   · exact .inl (by omega)
 · rintro (a | ⟨a,_⟩)
   · omega
   · have:=Ff a;omega
theorem Tb (h:fst E p≠p):lsO E n (p+1) x=lsO E n p x:=by
 unfold lsO
 by_cases e:x<p∧fst E x=x
 · rw[if_pos e,if_pos ⟨by omega,e.2⟩]
 · rw[if_neg e,if_neg];rintro⟨a,b⟩
   by_cases c:x=p
   · subst c;exact h b
   · exact e ⟨by omega,b⟩
theorem Rm (h:fst E p=p):lsO E n (p+1) x=lsQ E n p n x:=by
 unfold lsO lsQ
 by_cases e:x=p
 · subst e;rw[if_pos rfl,if_pos ⟨by omega,h⟩,KS]
 · rw[if_neg e];unfold lsO
   by_cases c:x<p∧fst E x=x
   · rw[if_pos c,if_pos ⟨by omega,c.2⟩]
   · rw[if_neg c,if_neg fun d=>c ⟨by omega,d.2⟩]
theorem No:cO E (p+1)=if fst E p=p then cO E p+1 else cO E p:=by
 unfold cO;rw[List.range_succ,List.filter_append,List.length_append,List.filter_cons]
 by_cases h:fst E p=p
 · rw[if_pos h,if_pos (decide_eq_true h)];rfl
 · rw[if_neg h,if_neg (by rw[decide_eq_false h];simp)];simp
theorem Tc (h:fst E p=p) (hp:p<n):cQ E p n=cO E (p+1):=by
 rw[No,if_pos h];unfold cQ;rw[KS,if_neg (Nn hp)]
theorem Ud:cO E n=(leasts n E).length:=rfl
theorem UK:cO E p≤p:=by
 have:=List.length_filter_le (fun y=>decide (fst E y=y)) (List.range p);rw[List.length_range]at this;exact this
theorem UL:cQ E p q≤p+1:=by
 unfold cQ;have:=UK (E:=E) (p:=p)
 split<;>omega
theorem Np (hx:x<n):lsO E n n x=if x∈leasts n E then CE n E x else []:=by
 unfold lsO
 by_cases h:fst E x=x
 · rw[if_pos ⟨hx,h⟩,if_pos (Bi.2 ⟨hx,h⟩)]
 · rw[if_neg fun c=>h c.2,if_neg fun c=>h (Bi.1 c).2]
theorem Ue (hx:x<n):PL E n 0 x:=Eo.2 (FS hx)
end
end Ci
end
section
open Go.RowKit Go.Shelf
namespace Ci
open Nt
def Rn (W:World) (A:Option Addr) (l:List (Option Addr×Nat×List Int)):Prop :=
 0<l.length→∃b off,A=some ⟨b,off,none⟩∧b<W.heap.size∧∀j (h:j<l.length),W.cell? ⟨b,off+j,none⟩=some (.slice l[j].1 l[j].2.2.length l[j].2.1)∧InInt W l[j].1 l[j].2.2∧l[j].2.2.length≤140737488355328
def bare (l:List (Option Addr×Nat×List Int)):List (List Int):=l.map fun x=>x.2.2
end Ci
end
section
open Go.RowKit Go.Shelf
namespace Ci
open Nt
open Classical
structure P1 (E:List (Nat×Nat)) (n:Nat) (w0:World) (S p q:Nat) (v:Nat→Value) (F:Nat→Int) (wr:World):Prop where
 kp:Kp [S,S+1,S+1+1] w0 wr
 lm:LM wr w0.heap.size S n (cQ E p q) v (lsQ E n p q)
 pl:∃c f,MapK Tryz.prog 3 κi wr (S+1+1) c f∧c≤1000*p+q∧∀x:Nat,x<n→f (x:Int)=if PL E p q x then some (.bool true) else none
 ro:RoI wr (S+1) n F
 fs:∀x,x<n→PL E p q x→F x=(fst E x:Int)
section
variable {E:List (Nat×Nat)} {n p q S:Nat} {w0 wr w':World} {v:Nat→Value} {F:Nat→Int}
theorem LM.congr {w:World} {B mb c c':Nat} {ls ls':Nat→List Nat} (h:LM w B mb n c v ls) (e:∀x,ls x=ls' x) (ec:c=c'):LM w B mb n c' v ls':=by
 obtain rfl:ls=ls':=funext e;subst ec;exact h
theorem P1.below (h:P1 E n w0 S p q v F wr) (hb:Below wr.heap.size wr w'):P1 E n w0 S p q v F w':=by
 obtain⟨c,f,h1,h2⟩:=h.pl;exact⟨h.kp.below hb,h.lm.below hb,⟨c,f,h1.below hb,h2⟩,h.ro.below hb,h.fs⟩
theorem P1.had (h:P1 E n w0 S p 0 v F wr) (hp:fst E p≠p):P1 E n w0 S (p+1) 0 v F wr:=by
 obtain⟨c,f,h1,h2,h3⟩:=h.pl;refine⟨h.kp,h.lm.congr (fun x=>?_) ?_,⟨c,f,h1,by omega,fun x hx=>?_⟩,h.ro,fun x hx hP=>h.fs x hx ((Mz hp).1 hP)⟩
 · rw[DZ,DZ,Tb hp]
 · rw[FO,FO,No,if_neg hp]
 · rw[h3 x hx]
   by_cases e:PL E p 0 x
   · rw[if_pos e,if_pos ((Mz hp).2 e)]
   · rw[if_neg e,if_neg fun c=>e ((Mz hp).1 c)]
theorem P1.next (h:P1 E n w0 S p n v F wr) (hp:fst E p=p) (hpn:p<n) (hn:n≤1000):P1 E n w0 S (p+1) 0 v F wr:=by
 obtain⟨c,f,h1,h2,h3⟩:=h.pl;refine⟨h.kp,h.lm.congr (fun x=>?_) ?_,⟨c,f,h1,by omega,fun x hx=>?_⟩,h.ro,fun x hx hP=>h.fs x hx ((JD hp hx).1 hP)⟩
 · rw[DZ,Rm hp]
 · rw[FO,Tc hp hpn]
 · rw[h3 x hx]
   by_cases e:PL E p n x
   · rw[if_pos e,if_pos ((JD hp hx).2 e)]
   · rw[if_neg e,if_neg fun c=>e ((JD hp hx).1 c)]
theorem P1.skip (h:P1 E n w0 S p q v F wr) (hm:¬Mut E p q):P1 E n w0 S p (q+1) v F wr:=by
 obtain⟨c,f,h1,h2,h3⟩:=h.pl;refine⟨h.kp,h.lm.congr (fun x=>(Rj hm).symm) (SZ hm).symm,⟨c,f,h1,by omega,fun x hx=>?_⟩,h.ro,fun x hx hP=>h.fs x hx ((JC hm).1 hP)⟩;rw[h3 x hx]
 by_cases e:PL E p q x
 · rw[if_pos e,if_pos ((JC hm).2 e)]
 · rw[if_neg e,if_neg fun c=>e ((JC hm).1 c)]
theorem P1.look (h:P1 E n w0 S p 0 v F wr) (hpn:p<n) (hn:n≤1000):(Instr.lookup 106 (.map (some (S+1+1))) (.int .i64 (p:Int)) false).run Tryz.prog wr=.ok (.bool (bV (fst E p≠p))) wr:=by
 obtain⟨c,f,h1,_,h3⟩:=h.pl;have:=h1.look Fp Tryz.underlying106 (Ng wr) (Ey Tryz.underlying3 (a:=(p:Int)) (by omega) (by omega));rw[this,h3 p hpn]
 by_cases e:fst E p≠p
 · rw[if_pos (Rl.2 e),Cj e];rfl
 · rw[if_neg fun c=>e (Rl.1 c),BL e];rfl
theorem ReachM.look {mb:Nat} {w:World} (h:ReachM w n mb E p) (hq:q<n) (hn:n≤1000):(Instr.lookup 106 (.map (some mb)) (.int .i64 (q:Int)) false).run Tryz.prog w=.ok (.bool (bV (Reach E p q))) w:=by
 obtain⟨c,f,h1,h3⟩:=h;have:=h1.look Fp Tryz.underlying106 (Ng w) (Ey Tryz.underlying3 (a:=(q:Int)) (by omega) (by omega));rw[this,h3 q hq]
 by_cases e:Reach E p q
 · rw[if_pos e,Cj e];rfl
 · rw[if_neg e,BL e];rfl
theorem ReachM.below {mb:Nat} {w:World} (h:ReachM w n mb E p) (hb:Below w.heap.size w w'):ReachM w' n mb E p:=by
 obtain⟨c,f,h1,h3⟩:=h;exact⟨c,f,h1.below hb,h3⟩
theorem ReachM.kp {mb:Nat} {xs:List Nat} {w:World} (h:ReachM w n mb E p) (hk:Kp xs w w') (hm:mb∉xs):ReachM w' n mb E p:=by
 obtain⟨c,f,h1,h3⟩:=h;exact⟨c,f,h1.kp hk hm,h3⟩
theorem P1.start (E:List (Nat×Nat)) (n:Nat) (wS:World) (t:TypeId) :
 P1 E n (((wS.alloc (.map #[] 0)).alloc (.cells (madeCells #[.int .i64 0] n) t)).alloc (.map #[] 0)) wS.heap.size 0 0 (fun _=>.slice none 0 0) (fun _=>0) (((wS.alloc (.map #[] 0)).alloc (.cells (madeCells #[.int .i64 0] n) t)).alloc (.map #[] 0)):=by
 have s1:(wS.alloc (.map #[] 0)).heap.size=wS.heap.size+1:=by simp
 have s2:((wS.alloc (.map #[] 0)).alloc (.cells (madeCells #[.int .i64 0] n) t)).heap.size=wS.heap.size+1+1:=by simp
 have hR:=(RoI.made (wS.alloc (.map #[] 0)) n t).alloc (.map #[] 0);rw[s1]at hR;have hM:=MapK.made ((wS.alloc (.map #[] 0)).alloc (.cells (madeCells #[.int .i64 0] n) t)) Tryz.prog 3 κi;rw[s2]at hM;refine⟨Kp.refl _ _,(((LM.made wS _ n).alloc _).alloc _).congr (fun x=>?_) ?_,⟨0,_,hM,Nat.zero_le _,fun x _=>?_⟩,hR,fun x _ hP=>?_⟩
 · rw[DZ];unfold lsO;rw[if_neg (by omega)]
 · rw[FO];rfl
 · rw[if_neg fun c=>by have:=Eo.1 c;omega]
 · have:=Eo.1 hP;omega
theorem P1.step (h:P1 E n w0 S p q v F wr) (hw0:w0.heap.size=S+3) (hm:Mut E p q) (hpn:p<n) (hqn:q<n) (hn:n≤1000) (hfp:fst E p=p) :
 ∃ W1,(Instr.mapUpdate 106 (.map (some (S+1+1))) (.int .i64 (q:Int)) (.bool true)).run Tryz.prog wr=.ok () W1∧W1.heap.size=W1.heap.size∧RoI W1 (S+1) n F ∧
  (∀ W2,W2=W1.setCell ⟨S+1,q,none⟩ (.int .i64 (p:Int))→(Instr.lookup 105 (.map (some S)) (.int .i64 (p:Int)) false).run Tryz.prog W2=.ok (v p) W2∧wr.heap.size≤W2.heap.size ∧
    ∀ W3,W3=W2.alloc (.cells #[.int .i64 (q:Int)] 3)→W3.ownsRow w0.heap.size 3 1 (v p) (lsQ E n p q p).length (BK (lsQ E n p q p)) ∧
     ∀ vb wb,wb.ownsRow w0.heap.size 3 1 vb ((lsQ E n p q p).length+1) (BK (lsQ E n p q p)++[.int .i64 (q:Int)])→W3.grownBy wb (v p).ownBlock→(vb.ownBlock=(v p).ownBlock∨vb.ownBlock=some W3.heap.size) →
      ∃ W4,(Instr.mapUpdate 105 (.map (some S)) (.int .i64 (p:Int)) vb).run Tryz.prog wb=.ok () W4∧P1 E n w0 S p (q+1) (fun i=>if i=p then vb else v i) (Fh F q (p:Int)) W4 ∧
       (∀w6,Kp [S,S+1,S+1+1] w6 wr→(∀b,(v p).ownBlock=some b→w6.heap.size≤b)→Kp [S,S+1,S+1+1] w6 W4∧∀b,vb.ownBlock=some b→w6.heap.size≤b)):=by
 obtain⟨c,f,h1,h2,h3⟩:=h.pl;obtain⟨W1,hrun,hM1,hg1⟩:=h1.put FX Fp Tryz.underlying106 (by unfold maxLen;omega) (Ey Tryz.underlying3 (a:=(q:Int)) (by omega) (by omega)) (.bool true);have hrowlt:∀x b,x<n→(v x).ownBlock=some b→w0.heap.size≤b:=fun x b hx e=>((h.lm.rows x hx).lt b e).1
 have hL1:LM W1 w0.heap.size S n (cQ E p q) v (lsQ E n p q):=h.lm.grown hg1 (by simp;omega) fun x b hx e e2=>by
  have:=hrowlt x b hx e
  cases e2;omega
 have hR1:RoI W1 (S+1) n F:=h.ro.grown hg1 (by simp);refine⟨W1,hrun,rfl,hR1,?_⟩;rintro W2 rfl
 have hL2:=hL1.set (a:=⟨S+1,q,none⟩) (.int .i64 (p:Int)) (by simp) fun x hx e=>by
  have:=hrowlt x _ hx e;simp only at this;omega
 have hR2:=hR1.set hqn (p:Int);have hM2:=hM1.set (a:=⟨S+1,q,none⟩) (by simp) (.int .i64 (p:Int));refine⟨hL2.look hpn hn,by have:=hg1.size;simpa using this,?_⟩;rintro W3 rfl;have hL3:=hL2.alloc (.cells #[.int .i64 (q:Int)] 3);refine⟨hL3.rows p hpn,fun vb wb ho hg hnb=>?_⟩;have hc:=UL (E:=E) (p:=p) (q:=q);obtain⟨W4,hrun4,hL4,hg4⟩:=hL3.step hpn hn (by unfold maxLen;omega) hg ho hnb;have hS:∀b,(v p).ownBlock=some b→S+1+1<b:=fun b e=>by have:=hrowlt p b hpn e;omega
 refine⟨W4,hrun4,⟨?_,hL4.congr (fun x=>?_) ?_,⟨if (f (q:Int)).isSome then c else c+1,Oc f (q:Int) (some (.bool true)),?_,?_,fun x hx=>?_⟩,?_,fun x hx hP=>?_⟩,fun w6 hk hb6=>⟨?_,fun b e=>?_⟩⟩
 · exact((((h.kp.grown hg1 fun b e=>by cases e;simp).set (a:=⟨S+1,q,none⟩) _ (by simp)).alloc _).grown hg fun b e=>.inr (hrowlt p b hpn e)).grown hg4 fun b e=>by cases e;simp
 · rw[Rk hm];rfl
 · rw[Ta (n:=n) hm]
 · exact((hM2.alloc _).kept hg fun e=>by have:=hS _ e.symm;omega).kept hg4 (by simp;omega)
 · split<;>omega
 · by_cases e:x=q
   · subst e;rw[BQ,if_pos ((GV hm).2 (.inr rfl))]
   · rw[BF (fun c=>e (by omega)),h3 x hx]
     by_cases e2:PL E p q x
     · rw[if_pos e2,if_pos ((GV hm).2 (.inl e2))]
     · rw[if_neg e2,if_neg fun c=>((GV hm).1 c).elim e2 e]
 · exact((hR2.alloc _).grown hg fun e=>by have:=hS _ e;omega).grown hg4 (by simp)
 · by_cases e:x=q
   · subst e;rw[AT,←Ff hm,hfp]
   · rw[AA e];exact h.fs x hx (((GV hm).1 hP).elim id fun c=>absurd c e)
 · exact((((hk.grown hg1 fun b e=>by cases e;simp).set (a:=⟨S+1,q,none⟩) _ (by simp)).alloc _).grown hg fun b e=>.inr (hb6 b e)).grown hg4 fun b e=>by cases e;simp
 · rcases hnb with hnb | hnb
   · exact hb6 b (by rw[←hnb,e])
   · rw[e]at hnb;have h1:=hk.size;have h2:=hg1.size;simp only[Option.some.injEq,World.size_alloc,World.size_setCell]at hnb;omega
end
structure P2 (E:List (Nat×Nat)) (n:Nat) (w7:World) (S:Nat) (v:Nat→Value) (pre left:List Nat) (vo:Value) (wr:World):Prop where
 st:Stage n E pre left
 kp:Kp [S] w7 wr
 mp:∃f,MapK Tryz.prog 3 κi wr S left.length f∧∀x:Nat,x<n→f (x:Int)=if x∈left then some (v x) else none
 out:wr.ownsRow w7.heap.size 26 1 vo pre.length (pre.map v)
section
variable {E:List (Nat×Nat)} {n p q S:Nat} {w0 w7 wr w':World} {v:Nat→Value} {F:Nat→Int} {pre left:List Nat} {vo:Value}
theorem P2.start (h:P1 E n w0 S n 0 v F w7) (hE:InN n E):P2 E n w7 S v [] (leasts n E) (.slice none 0 0) w7:=by
 obtain⟨f,h1,h2⟩:=h.lm.map;rw[FO,Ud]at h1;refine⟨Stage.start hE,Kp.refl _ _,⟨f,h1,fun x hx=>?_⟩,World.ownsRow_nil _ _ _ _⟩;rw[h2 x hx,DZ,Np hx]
 by_cases e:x∈leasts n E
 · rw[if_pos e,if_pos e,if_neg (Nn hx)]
 · rw[if_neg e,if_neg e,if_pos rfl]
theorem P2.pre_nodup (h:P2 E n w7 S v pre left vo wr) (hE:InN n E):pre.Nodup:=by
 have h1:=H4 hE;rw[h.st.eq]at h1;exact(List.nodup_append.1 h1).1
theorem P2.len (h:P2 E n w7 S v pre left vo wr) (ty:TypeId):(Builtin.len_ #[105] ty #[.map (some S)]).run Tryz.prog wr=.ok (.int .i64 (left.length:Int)) wr:=by
 obtain⟨f,h1,_⟩:=h.mp;exact h1.len Tryz.underlying105 ty
theorem P2.look (h:P2 E n w7 S v pre left vo wr) (hp:p<n) (hn:n≤1000):(Instr.lookup 105 (.map (some S)) (.int .i64 (p:Int)) true).run Tryz.prog wr=.ok (.tuple #[if p∈left then v p else .slice none 0 0,.bool (bV (p∈left))]) wr:=by
 obtain⟨f,h1,h2⟩:=h.mp;have:=h1.look_ok Fp Tryz.underlying105 (QM wr) (Ey Tryz.underlying3 (a:=(p:Int)) (by omega) (by omega));rw[this,h2 p hp]
 by_cases e:p∈left
 · rw[if_pos e,if_pos e,Cj e];rfl
 · rw[if_neg e,if_neg e,BL e];rfl
theorem P2.step (h:P2 E n w7 S v pre left vo wr) (hp:EV E left=some p) (hpn:p<n) (hn:n≤1000) (hS:S<w7.heap.size) :
 (wr.alloc (.cells #[v p] 26)).ownsRow w7.heap.size 26 1 vo pre.length (pre.map v)∧w7.heap.size≤(wr.alloc (.cells #[v p] 26)).heap.size ∧
 ∀ vb wb,wb.ownsRow w7.heap.size 26 1 vb (pre.length+1) (pre.map v++[v p])→(wr.alloc (.cells #[v p] 26)).grownBy wb vo.ownBlock →
  ∃W4,(Builtin.delete_ #[105,3] 0 #[.map (some S),.int .i64 (p:Int)]).run Tryz.prog wb=.ok (.tuple #[]) W4∧P2 E n w7 S v (pre++[p]) (left.erase p) vb W4:=by
 have hs:=h.kp.size;obtain⟨hpl,_,_⟩:=Cl h.st.ok hp;obtain⟨f,h1,h2⟩:=h.mp;have hvo:∀b,vo.ownBlock=some b→w7.heap.size≤b:=fun b e=>(h.out.lt b e).1;refine⟨AX h.out ((Below.refl _ wr).alloc (Nat.le_refl _) _),by simp;omega,fun vb wb ho hg=>?_⟩;have hne:∀b,vo.ownBlock=some b→b≠S:=fun b e c=>by have:=hvo b e;omega
 have hM:=(h1.alloc (.cells #[v p] 26)).kept hg fun e=>hne S e.symm rfl;obtain⟨W4,hrun,hM4,hg4⟩:=hM.del FX Fp Tryz.underlying105 (Ey Tryz.underlying3 (a:=(p:Int)) (by omega) (by omega)) 0
 have hc:(if (f (p:Int)).isSome then left.length-1 else left.length)=(left.erase p).length:=by
  rw[h2 p hpn,if_pos hpl,List.length_erase_of_mem hpl];rfl
 rw[hc]at hM4;refine⟨W4,hrun,h.st.step hp,?_,⟨_,hM4,fun x hx=>?_⟩,?_⟩
 · exact((h.kp.alloc _).grown hg fun b e=>.inr (hvo b e)).grown hg4 fun b e=>by cases e;simp
 · by_cases e:x=p
   · subst e;rw[BQ,if_neg fun c=>(h.st.ok.nodup.mem_erase_iff.1 c).1 rfl]
   · rw[BF (fun c=>e (by omega)),h2 x hx]
     by_cases e2:x∈left
     · rw[if_pos e2,if_pos ((List.mem_erase_of_ne e).2 e2)]
     · rw[if_neg e2,if_neg fun c=>e2 ((List.mem_erase_of_ne e).1 c)]
 · rw[List.length_append,List.map_append];refine ho.kept hg4 ?_
   cases hu:vb.ownBlock with
   | none=>exact .inl rfl
   | some b=>exact .inr fun e=>(by have:=(ho.lt b hu).1;cases e;omega)
def slA:Value→Option Addr
 | .slice a _ _=>a
 | _=>none
def slC:Value→Nat
 | .slice _ _ c=>c
 | _=>0
noncomputable def AG (E:List (Nat×Nat)) (n:Nat) (v:Nat→Value) (pre:List Nat):List (Option Addr×Nat×List Int):=pre.map fun p=>(slA (v p),slC (v p),(CE n E p).map fun(q:Nat)=>(q:Int))
theorem OK:bare (AG E n v pre)=pre.map fun p=>(CE n E p).map fun(q:Nat)=>(q:Int):=by
 unfold bare AG;rw[List.map_map];rfl
theorem IY {W:World} {base:Nat} {e:TypeId} {u:Value} {l:List Nat} (h:W.ownsRow base e 1 u l.length (BK l)):u=.slice (slA u) l.length (slC u)∧InInt W (slA u) (l.map fun(q:Nat)=>(q:Int)):=by
 rcases DU h with⟨rfl,rfl⟩ | ⟨g,cap,rfl,_,h1,_,h2⟩
 · exact⟨rfl,fun h=>absurd h (by simp)⟩
 · refine⟨rfl,fun _=>⟨g,0,rfl,h1,fun j hj=>?_⟩⟩;have hj2:j<l.length:=by simpa using hj
   rw[Nat.zero_add,h2 j hj2];simp
theorem Ro {W:World} {base base2 c:Nat} {A:Option Addr} (hn:n≤1000) (h:W.ownsRow base 26 1 (.slice A pre.length c) pre.length (pre.map v)) (hr:∀p,p∈pre→W.ownsRow base2 3 1 (v p) (CE n E p).length (BK (CE n E p))):Rn W A (AG E n v pre):=fun h0=>by
 have hl:(AG E n v pre).length=pre.length:=by simp[AG]
 rw[hl]at h0
 rcases h.2 with⟨_,h1⟩ | ⟨g,cap,cur,e,hb,hg,_⟩
 · omega
 · injection e with e1 _ _;subst e1;refine⟨g,0,rfl,(Array.getElem?_eq_some_iff.1 hg).1,fun j hj=>?_⟩;have hj2:j<pre.length:=by omega
   have hc:=h.cells (g:=g) (by simp[Value.ownBlock]) j (v pre[j]) (by simp[hj2]);rw[Addr.add_lit]at hc;have hrj:=IY (hr pre[j] (List.getElem_mem hj2));have he:(AG E n v pre)[j]=(slA (v pre[j]),slC (v pre[j]),(CE n E pre[j]).map fun(q:Nat)=>(q:Int)):=by simp[AG]
   rw[he];refine⟨?_,hrj.2,?_⟩
   · rw[hc];simp only[List.length_map];rw[←hrj.1]
   · simp only[List.length_map];unfold CE;have h:=List.length_filter_le (fun q=>decide (Mut E pre[j] q)) (List.range n);rw[List.length_range]at h;omega
end
end Ci
end
section
open Go.RowKit Go.Shelf
namespace Ci
open Nt
open Classical
noncomputable def DI (s:SR):List (List Int):=(An s.ps.length (edges s)).map fun l=>l.map fun(q:Nat)=>(q:Int)
def M7 (s:SR) (w:World) (e:Ending) (w':World):Prop :=
 (if soundB s=true then ∃A c l,e=.returned (.tuple #[.slice A l.length c,.int .i64 0])∧Rn w' A l∧bare l=DI s
   else e=.returned (.tuple #[.slice none 0 0,.int .i64 1]))∧Below w.heap.size w w'
theorem Idq (s:SR) (Ap Ac Av:Option Addr) (cp cc cv:Nat) (w:World) (hE:Env w) (hs:StIn w s Ap Ac Av) (hc3:s.cap.length≤300) :
 Calls Tryz.prog 52 #[.agg #[.slice Ap s.ps.length cp,.slice Ac s.cap.length cc,.slice Av s.vot.length cv]] w (M7 s w):=by
 have hX0:Hid (Bk (w.alloc (.cells #[.slice Ap s.ps.length cp,.slice Ac s.cap.length cc,.slice Av s.vot.length cv] 25)) w.heap.size 25 (SC s Ap Ac Av cp cc cv)):=Bk.new w _ _;have hB0:Hid (Below w.heap.size w (w.alloc (.cells #[.slice Ap s.ps.length cp,.slice Ac s.cap.length cc,.slice Av s.vot.length cv] 25))):=(Below.refl _ w).alloc (Nat.le_refl _) _;have hmm:=@run_makeMap Tryz.prog;have u0:=hX0.out.c0;have u1:=hX0.out.c1;have u2:=hX0.out.c2;have u9:=hX0.out.lt;obtain⟨wa,hwa⟩:∃x,x=w.alloc (.cells #[.slice Ap s.ps.length cp,.slice Ac s.cap.length cc,.slice Av s.vot.length cv] 25):=⟨_,rfl⟩;have ks:=CW s Ap Ac Av cp cc cv (w.alloc (.cells #[.slice Ap s.ps.length cp,.slice Ac s.cap.length cc,.slice Av s.vot.length cv] 25)) (hE.below hB0.out) (hs.below hB0.out);have hsz0:(w.alloc (.cells #[.slice Ap s.ps.length cp,.slice Ac s.cap.length cc,.slice Av s.vot.length cv] 25)).heap.size=w.heap.size+1:=by simp
 rw[←hwa]at hX0 hB0 u0 u1 u2 u9 ks hsz0
 cases hsd:soundB s with
 | false =>
   have hBad:Hid (∀e w',e=.returned (.tuple #[.slice none 0 0,.int .i64 1])→Below w.heap.size w w'→M7 s w e w'):=fun e w' h2 h3=>⟨by rw[if_neg (by rw[hsd];simp)];exact h2,h3⟩;rw[hsd]at ks;replace ks:=zh ks;replace hs:=zh hs;clear hmm;subst hwa;go_enter Tryz.func52,Tryz.ntmps52
   go_wp2_with fail
   refine ks.out.mono ?_;rintro e w2 ⟨rfl,hb⟩;have hB2:=zh (hB0.out.trans (hb.mono hB0.out.size));clear hb;go_wp2;go_ret2;exact hBad.out _ _ rfl hB2.out
 | true =>
   have hn60:s.ps.length≤60:=by
    have h:=hsd;unfold soundB at h;simp only[Bool.and_eq_true,decide_eq_true_eq]at h;exact h.2.1
   have hin:Hid (∀x,x∈s.cap→(0≤x.1∧x.1<s.ps.length)∧(0≤x.2.1∧x.2.1<s.ps.length)):=fun x hx=>by
    have h:=hsd;unfold soundB at h;simp only[Bool.and_eq_true]at h;obtain⟨i,hi,rfl⟩:=List.getElem_of_mem hx;exact⟨(C4 h.2.2.1 hi).1.1,(C4 h.2.2.1 hi).1.2.1⟩
   have hin2:=zh (Hk hsd);have hGood:Hid (∀e w' A c k l,e=.returned (.tuple #[.slice A k c,.int .i64 0])→k=List.length l→Rn w' A l→bare l=DI s→Below w.heap.size w w'→M7 s w e w'):=fun e w' A c k l h1 hk h2 h3 h4=>⟨by rw[if_pos hsd];exact⟨A,c,l,by rw[←hk];exact h1,h2,h3⟩,h4⟩;rw[hsd]at ks;replace ks:=zh ks;replace hs:=zh hs;replace hsd:=zh hsd;have hmk:=run_make_row' (P:=Tryz.prog) 26 3 (.int .i64 0) 8 Tryz.underlying26 Ia rfl .i64 .i64 s.ps.length (by omega) (by omega);have ho2:=zh (fun w2 h=>QK s Ap Ac Av cp cc cv w2 h (by omega) hc3 hin.out)
   have hal:Hid (∀p,(Ch (edges s) (edges s).length p).length≤300):=fun p=>by
    unfold Ch;rw[List.length_map];have h1:=List.length_filter_le (fun x:Nat×Nat=>decide (x.1=p)) ((edges s).take (edges s).length);have h2:((edges s).take (edges s).length).length≤(edges s).length:=List.length_take_le' _ _;have h3:(edges s).length=s.cap.length:=by simp[edges]
    omega
   have hadj:Hid (∀p q,q∈Ch (edges s) (edges s).length p↔(p,q)∈edges s):=fun _ _=>KE
   have hres:Hid (DI s=(ords s.ps.length (edges s)).map fun p=>(CE s.ps.length (edges s) p).map fun(q:Nat)=>(q:Int)):=by
    unfold Hid DI An;rw[List.map_map];rfl
   obtain⟨E,hE0⟩:∃E,E=edges s:=⟨_,rfl⟩;obtain⟨adj,hadj0⟩:∃a,a=Ch (edges s) (edges s).length:=⟨_,rfl⟩;rw[←hadj0]at ho2 hal hadj;rw[←hE0]at hin2 hadj hres;clear hE0 hadj0;obtain⟨i0,hi0,hzz⟩:=Option.map_eq_some_iff.1 Ia;simp only[Prod.mk.injEq]at hzz;obtain⟨hz0,hz1,hz2⟩:=hzz;replace hi0:=zh hi0;replace hz0:=zh hz0;replace hz1:=zh hz1;replace hz2:=zh hz2;subst hwa;go_enter Tryz.func52,Tryz.ntmps52
   go_wp2_with fail
   refine ks.out.mono ?_;rintro e w2 ⟨rfl,hb⟩;have hB2:=zh (hB0.out.trans (hb.mono hB0.out.size));have hX2:=zh (hX0.out.below hb);have kg:=zh (ho2.out w2 (hs.out.below hB2.out));clear hb ks hB0 hX0 u0 u1 u2 u9 ho2;have u0:=hX2.out.c0;have u1:=hX2.out.c1;have u2:=hX2.out.c2;have u9:=hX2.out.lt
   go_wp2_with fail
   refine kg.out.mono ?_;rintro e w3 ⟨⟨R,vg,rfl,hG⟩,hb⟩;have hB3:=zh (hB2.out.trans (hb.mono hB2.out.size));clear hb kg hB2 hX2 u0 u1 u2 u9;have kt:=zh (Ml R s.ps.length w2.heap.size vg adj w3 (by omega) (fun p _=>by have:=hal.out p;omega) (fun p q _ h=>(hin2.out _ ((hadj.out p q).1 h)).2) hG);replace hG:=zh hG
   go_wp2_with fail
   refine kt.out.mono ?_;rintro e w4 ⟨⟨R2,vb,T,rfl,hG2,hT⟩,hb⟩;have hB4:=zh (hB3.out.trans (hb.mono hB3.out.size));have hG4:=zh (hG.out.below hb)
   have hTm:Hid (∀p q,p<s.ps.length→(q∈T p↔(p,q)∈KR E)):=fun p q hp=>by
    rw[hT.1 p q hp,EE,←hadj.out];constructor
    · rintro(⟨_,h⟩ | ⟨_,h⟩)
      · exact h
      · simp at h
    · intro h;exact .inl ⟨(hin2.out _ ((hadj.out q p).1 h)).1,h⟩
   have hTl:Hid (∀p,(T p).length≤60000):=fun p=>by have:=hT.2 p;omega
   replace hG2:=zh hG2;clear hb kt hB3 hG hT;have hP0:=zh (P1.start E s.ps.length w4 3);have hBc:Hid (Below w.heap.size w (((w4.alloc (.map #[] 0)).alloc (.cells (madeCells #[.int .i64 0] s.ps.length) 3)).alloc (.map #[] 0))):=((hB4.out.alloc hB4.out.size _).alloc (by have:=hB4.out.size;simp;omega) _).alloc (by have:=hB4.out.size;simp;omega) _;have hBd:Hid (Below w4.heap.size w4 (((w4.alloc (.map #[] 0)).alloc (.cells (madeCells #[.int .i64 0] s.ps.length) 3)).alloc (.map #[] 0))):=(((Below.refl _ w4).alloc (Nat.le_refl _) _).alloc (by simp) _).alloc (by simp<;>omega) _;have hszc:Hid ((((w4.alloc (.map #[] 0)).alloc (.cells (madeCells #[.int .i64 0] s.ps.length) 3)).alloc (.map #[] 0)).heap.size=w4.heap.size+3):=by unfold Hid;simp
   have hGs:Hid (R<w4.heap.size∧R2<w4.heap.size∧(∀i b,i<s.ps.length→(vg i).ownBlock=some b→b<w4.heap.size)∧(∀i b,i<s.ps.length→(vb i).ownBlock=some b→b<w4.heap.size)) :=
    ⟨hG4.out.lt,hG2.out.lt,fun i b hi e=>((hG4.out.rows i hi).lt b e).2,fun i b hi e=>((hG2.out.rows i hi).lt b e).2⟩
   have hGa:=zh (hG4.out.below hBd.out);have hGb:=zh (hG2.out.below hBd.out);have hSw:w.heap.size≤w4.heap.size:=hB4.out.size;go_wp2;obtain⟨w0,hw0⟩:∃x,x=(((w4.alloc (.map #[] 0)).alloc (.cells (madeCells #[.int .i64 0] s.ps.length) 3)).alloc (.map #[] 0)):=⟨_,rfl⟩;rw[←hw0]at hP0 hBc hszc hGa hGb ⊢;obtain⟨S,hS⟩:∃x,x=w4.heap.size:=⟨_,rfl⟩;rw[←hS]at hP0 hszc hGs hSw ⊢;clear hmk hmm hBd hG4 hG2 hw0 hS hB4
   go_loopw [37] (fun ix wr=>∃(p:Nat) (v:Nat→Value) (F:Nat→Int),p≤s.ps.length∧ix=.int .i64 (p:Int)∧Hid (P1 E s.ps.length w0 S p 0 v F wr)) (fun ix _=>s.ps.length-(intOf ix).toNat)
   case atStart=>exact⟨0,_,_,Nat.zero_le _,rfl,hP0⟩
   case round =>
    obtain⟨p,v,F,hp,rfl,hP⟩:=hrel;clear hP0
    by_cases hpn:p<s.ps.length
    · have hlk:=hP.out.look hpn (by omega);have p0:(0:Int)≤(p:Int):=by omega
      have p1:(p:Int)<(s.ps.length:Int):=by omega
      by_cases hfp:fst E p=p
      · rw [BL (fun c=>c hfp)]at hlk;have hGw:=hGa.out.kp hP.out.kp (by have:=hGs.out.1;simp;omega) (fun i b hi e=>by have:=hGs.out.2.2.1 i b hi e;simp;omega);have k1:=zh (GC E R s.ps.length _ p vg adj wr (by omega) (fun x q _=>hadj.out x q) hin2.out (fun x _=>by have:=hal.out x;omega) hpn hGw);replace hfp:=zh hfp;clear hGw
        go_wp2_with fail
        refine k1.out.mono ?_;rintro e w5 ⟨⟨m1,rfl,hm1,hRe1⟩,hb⟩;have hP5:=zh (hP.out.below hb);have hm1b:S+3≤m1:=by have:=hP.out.kp.size;have:=hszc.out;omega
        clear hb hm1 hP k1 hlk;have hGw:=hGb.out.kp hP5.out.kp (by have:=hGs.out.2.1;simp;omega) (fun i b hi e=>by have:=hGs.out.2.2.2 i b hi e;simp;omega);have k2:=zh (GC (KR E) R2 s.ps.length _ p vb T w5 (by omega) (fun x q hx=>hTm.out x q hx) (SY hin2.out) (fun x _=>by have:=hTl.out x;omega) hpn hGw);replace hRe1:=zh hRe1;clear hGw
        go_wp2_with fail
        refine k2.out.mono ?_;rintro e w6 ⟨⟨m2,rfl,hm2,hRe2⟩,hb⟩;have hP6:=zh (hP5.out.below hb);have hRe1':=zh (hRe1.out.below hb);have hm2b:S+3≤m2:=by have:=hP5.out.kp.size;have:=hszc.out;omega
        replace hRe2:=zh hRe2;clear hb hm2 hP5 hRe1 k2
        have hv6:Hid (∀b,(v p).ownBlock=some b→w6.heap.size≤b):=fun b e=>by
         rw[hP6.out.lm.nil p hpn (by unfold lsQ;rw[if_pos rfl,IX])]at e
         cases e
        have hK6:Hid (Kp [S,S+1,S+1+1] w6 w6):=Kp.refl _ _;go_wp2
        go_loopw [51] (fun ix wz=>∃(q:Nat) (v2:Nat→Value) (F2:Nat→Int),q≤s.ps.length∧ix=.int .i64 (q:Int)∧Hid (P1 E s.ps.length w0 S p q v2 F2 wz)∧Hid (Kp [S,S+1,S+1+1] w6 wz)∧Hid (∀b,(v2 p).ownBlock=some b→w6.heap.size≤b)) (fun ix _=>s.ps.length-(intOf ix).toNat)
        case atStart=>exact⟨0,v,F,Nat.zero_le _,rfl,hP6,hK6,hv6⟩
        case round =>
         obtain⟨q,v2,F2,hq,rfl,hP,hK,hv⟩:=hrel;clear hP6 hK6 hv6
         by_cases hqn:q<s.ps.length
         · have hl1:=(hRe1'.out.kp hK.out (by simp;omega)).look hqn (by omega);have hl2:=(hRe2.out.kp hK.out (by simp;omega)).look hqn (by omega);have q0:(0:Int)≤(q:Int):=by omega
           have q1:(q:Int)<(s.ps.length:Int):=by omega
           by_cases hr1:Reach E p q
           · rw [Cj hr1]at hl1
             by_cases hr2:Reach E q p
             · rw [Cj (IW.2 hr2)]at hl2;obtain⟨W1,hrun1,_,hR1,hst⟩:=hP.out.step hszc.out ⟨hr1,hr2⟩ hpn hqn (by omega) hfp.out;obtain⟨hlk2,hsz2,hst2⟩:=hst _ rfl;obtain⟨hrow,hst3⟩:=hst2 _ rfl;have c1:=hR1.cell q hqn;have c2:=hR1.fr q;have c3:=hR1.lt
               have had:Hid (∀j u,[(Value.int .i64 (q:Int))][j]? = some u→((W1.setCell ⟨S+1,q,none⟩ (.int .i64 (p:Int))).alloc (.cells #[.int .i64 (q:Int)] 3)).cell? (Addr.add ⟨W1.heap.size,0,none⟩ j)=some u):=by
                have h:=Cf (W1.setCell ⟨S+1,q,none⟩ (.int .i64 (p:Int))) (.int .i64 (q:Int)) 3
                rwa [World.size_setCell]at h
               have hls:Hid ((lsQ E s.ps.length p q p).length≤100):=by
                unfold Hid lsQ;rw[if_pos rfl];unfold Ag;have h:=List.length_filter_le (fun y=>decide (Mut E p y)) (List.range q);rw[List.length_range]at h;omega
               have hbs:Hid (w0.heap.size≤((W1.setCell ⟨S+1,q,none⟩ (.int .i64 (p:Int))).alloc (.cells #[.int .i64 (q:Int)] 3)).heap.size):=by
                have h1:=hP.out.kp.size;unfold Hid;rw[World.size_alloc];omega
               obtain⟨vp,hvp⟩:∃x,x=v2 p:=⟨_,rfl⟩;rw[←hvp]at hlk2 hrow hst3;rw[←hvp]at hv;replace hvp:=zh hvp;replace hrow:=zh hrow;replace hst3:=zh hst3;clear hP hst hst2 hR1 hr1 hr2 hsz2
               go_wp2_with (at_builtin;refine wpList_append_new _ rfl _ _ 26 rfl w0.heap.size 3 i0 (.int .i64 0) 1 8 Tryz.underlying26 hi0.out hz0.out hz1.out hz2.out rfl (by decide) vp _ _ rfl hrow.out ⟨W1.heap.size,0,none⟩ 1 1 [.int .i64 (q:Int)] rfl rfl had.out (AU _ rfl) (by decide) (by have:=hls.out;unfold maxLen;omega) (by have:=hls.out;omega) hbs.out ?_;intro vb9 wb9 ho9 hg9 hn9;obtain⟨W4,hrun4,hP4,hK4⟩:=hst3.out vb9 wb9 ho9 hg9 (by simpa using hn9);obtain⟨hK5,hv5⟩:=hK4 w6 hK.out hv.out;replace hP4:=zh hP4;replace hK5:=zh hK5;replace hv5:=zh hv5;clear ho9 hg9 hn9 hK4)
               exact⟨⟨q+1,_,_,by omega,by go_num,hP4,hK5,fun b e=>hv5.out b (by simpa using e)⟩,by simp only[intOf];omega⟩
             · rw[BL (fun c=>hr2 (IW.1 c))]at hl2;have hP2:=zh (hP.out.skip fun c=>hr2 c.2);clear hP hr1 hr2;go_wp2;exact⟨⟨q+1,v2,F2,by omega,by go_num,hP2,hK,hv⟩,by simp only[intOf];omega⟩
           · rw[BL hr1]at hl1;have hP2:=zh (hP.out.skip fun c=>hr1 c.1);clear hP hr1 hl2;go_wp2;exact⟨⟨q+1,v2,F2,by omega,by go_num,hP2,hK,hv⟩,by simp only[intOf];omega⟩
         · obtain rfl:q=s.ps.length:=by omega
           have hP2:=zh (hP.out.next hfp.out hpn (by omega));clear hP;go_wp2;exact⟨⟨p+1,v2,F2,by omega,by go_num,hP2⟩,by simp only[intOf];omega⟩
      · rw[Cj hfp]at hlk;have hP2:=zh (hP.out.had hfp);clear hfp hP;go_wp2;exact⟨⟨p+1,v,F,by omega,by go_num,hP2⟩,by simp only[intOf];omega⟩
    · obtain rfl : p = s.ps.length:=by omega
      obtain⟨w7,hw7⟩:∃x,x=wr:=⟨_,rfl⟩;subst hw7;have hQ0:=zh (P2.start hP.out hin2.out);have hF:Hid (∀x,x<s.ps.length→F x=(fst E x:Int)):=fun x hx=>hP.out.fs x hx (Ue hx);have hro:=zh hP.out.ro
      have hrows:Hid (∀x,x∈leasts s.ps.length E→w7.ownsRow w0.heap.size 3 1 (v x) (CE s.ps.length E x).length (BK (CE s.ps.length E x))):=fun x hx=>by
       have hxn:=(Bi.1 hx).1;have h:=hP.out.lm.rows x hxn
       rwa [DZ,Np hxn,if_pos hx]at h
      have hG7:=zh (hGb.out.kp hP.out.kp (by have:=hGs.out.2.1;simp;omega) (fun i b hi e=>by have:=hGs.out.2.2.2 i b hi e;simp;omega));have hB7:Hid (Below w.heap.size w w7):=hP.out.kp.to_below hBc.out fun x hx=>by simp at hx;omega
      have hS7:S<w7.heap.size:=by have:=hP.out.kp.size;have:=hszc.out;omega
      have hR27:Hid (R2∉[S]∧(∀i b,i<s.ps.length→(vb i).ownBlock=some b→b∉[S])∧S+1∉[S]∧∀x b,x∈leasts s.ps.length E→(v x).ownBlock=some b→b∉[S]):=by
       refine⟨by have:=hGs.out.2.1;simp;omega,fun i b hi e=>by have:=hGs.out.2.2.2 i b hi e;simp;omega,by simp,fun x b hx e=>?_⟩;have h1:=((hrows.out x hx).lt b e).1;have h2:=hszc.out;simp;omega
      clear hP hGb hGa hGs hBc hszc;go_wp2
      go_loopg [13] (leasts s.ps.length E).length (fun m u wz=>∃(A:Option Addr) (c:Nat) (pre left:List Nat),m=left.length∧u=.slice A pre.length c∧Hid (P2 E s.ps.length w7 S v pre left (.slice A pre.length c) wz))
      case atStart=>exact⟨none,0,[],_,rfl,rfl,hQ0⟩
      case round =>
       obtain⟨A,c,pre,left,hm,rfl,hP⟩:=hrel;clear hQ0;have hlen:=hP.out.len 3
       by_cases hl0:left=[]
       · subst hl0;have hord:Hid (ords s.ps.length E=pre):=hP.out.st.end
         have hpl:Hid (∀x,x∈pre→x∈leasts s.ps.length E):=fun x hx=>by
          have:=hP.out.st.had x hx;exact Bi.2 ⟨this.1,this.2.1⟩
         have hLs:=zh (Ro (E:=E) (n:=s.ps.length) (by omega) hP.out.out fun p hp=>QN (hrows.out p (hpl.out p hp)) hP.out.kp fun b e=>hR27.out.2.2.2 p b (hpl.out p hp) e);have hBr:Hid (Below w.heap.size w wr):=hP.out.kp.to_below hB7.out fun x hx=>by simp at hx;omega
         have hlo:Hid (pre.length=(AG E s.ps.length v pre).length):=by unfold Hid AG;simp
         clear hm hP;go_wp2;go_ret2;exact hGood.out _ _ A c _ _ rfl hlo.out hLs.out (by rw[OK,hres.out,hord.out]) hBr.out
       · have hl1 : 0 < (left.length:Int):=by have:=List.length_pos_iff.2 hl0;omega
         have hno0:Hid (∀x,x<0→x∈left→¬Fg E left x):=fun x hx=>absurd hx (Nat.not_lt_zero _)
         have hleft:Hid (∀x,x∈left→x<s.ps.length∧x∈leasts s.ps.length E):=fun x hx=>by
          have:=hP.out.st.ok.own x hx;exact⟨this.1,Bi.2 this⟩
         go_wp2;go_step3;go_wp2;go_step3;go_wp2
         go_loopw [13,83] (fun u ix wz=>∃p:Nat,p≤s.ps.length∧u=.slice A pre.length c∧ix=.int .i64 (p:Int)∧wz=wr∧Hid (∀x,x<p→x∈left→¬Fg E left x)) (fun _ ix _=>s.ps.length-(intOf ix).toNat)
         case atStart=>exact⟨0,Nat.zero_le _,rfl,rfl,rfl,hno0⟩
         case round =>
          clear hno0 hlen;obtain⟨p,hp,rfl,rfl,hwz,hno⟩:=hrel;subst hwz
          by_cases hpn:p<s.ps.length
          · have hlk:=hP.out.look hpn (by omega);have p0:(0:Int)≤(p:Int):=by omega
            have p1:(p:Int)<(s.ps.length:Int):=by omega
            by_cases hpl:p∈left
            · rw [if_pos hpl,Cj hpl]at hlk;obtain⟨hvp,hvc⟩:=IY (QN (hrows.out p (hleft.out p hpl).2) hP.out.kp fun b e=>hR27.out.2.2.2 p b (hleft.out p hpl).2 e);rw[hvp]at hlk;have hpn2:=zh hpn
              have hcn:Hid ((CE s.ps.length E p).length≤s.ps.length):=by
               unfold Hid CE;have h:=List.length_filter_le (fun q=>decide (Mut E p q)) (List.range s.ps.length)
               rwa [List.length_range]at h
              have hcm:Hid (∀q,q∈CE s.ps.length E p→q<s.ps.length∧Mut E p q):=fun q hq=>C6.1 hq;have hfr:Hid ((∀q,q∈CE s.ps.length E p→∀h,(h,q)∈E→fst E h∈left→fst E h=p)→Fg E left p):=fun h=>(JU hin2.out).2 h;have hnf:Hid (∀h q,q∈CE s.ps.length E p→(h,q)∈E→fst E h∈left→fst E h≠p→¬Fg E left p):=fun h q hq he hl hne hF2=>hne ((JU hin2.out).1 hF2 q hq h he hl);obtain⟨cmp,hcmp⟩:∃x,x=CE s.ps.length E p:=⟨_,rfl⟩;rw[←hcmp]at hlk hvp hvc hcn hcm hfr hnf;obtain⟨Ap2,hAp2⟩:∃x,x=slA (v p):=⟨_,rfl⟩;obtain⟨cp2,hcp2⟩:∃x,x=slC (v p):=⟨_,rfl⟩;rw[←hAp2,←hcp2]at hlk hvp;rw[←hAp2]at hvc;have hc0:Hid (∀q,q∈cmp.take 0→∀h,(h,q)∈E→fst E h∈left→fst E h=p):=fun q hq=>by simp at hq
              replace hvp:=zh hvp;replace hvc:=zh hvc;replace hcmp:=zh hcmp;clear hAp2 hcp2;go_wp2
              go_loopw [96] (fun ix wz=>∃j:Nat,j≤cmp.length∧ix=.int .i64 (j:Int)∧wz=wr∧Hid (∀q,q∈cmp.take j→∀h,(h,q)∈E→fst E h∈left→fst E h=p)) (fun ix _=>cmp.length-(intOf ix).toNat)
              case atStart=>exact⟨0,Nat.zero_le _,rfl,rfl,hc0⟩
              case round =>
               clear hc0 hlk;obtain⟨j,hj,rfl,hwz,hck⟩:=hrel;subst hwz
               by_cases hjl:j<cmp.length
               · obtain ⟨gp,op,rfl,hgl,hgc⟩:=hvc.out (by simpa using Nat.lt_of_le_of_lt (Nat.zero_le _) hjl);have e1:=hgc j (by simpa using hjl);simp only[List.getElem_map]at e1;have hqm:=zh (List.getElem_mem hjl);have htk:cmp.take (j+1)=cmp.take j++[cmp[j]]:=List.take_succ_eq_append_getElem hjl;obtain⟨q,hqe⟩:∃x,x=cmp[j]:=⟨_,rfl⟩;rw[←hqe]at e1 hqm htk;have hqn:q<s.ps.length:=(hcm.out q hqm.out).1;have hGw:=hG7.out.kp hP.out.kp hR27.out.1 hR27.out.2.1;have d1:=hGw.hd q hqn;have d2:=hGw.lt;obtain⟨A3,c3,hvq,hrow⟩:=Re (hG7.out.rows q hqn);rw[hvq]at d1
                 have hgr:Hid (∀i (hi:i<(T q).length),∃gg,A3=some ⟨gg,0,none⟩∧wr.cell? ⟨gg,i,none⟩=some (.int .i64 ((T q)[i]:Int))∧gg<wr.heap.size):=fun i hi=>by
                  obtain⟨gg,hA,h1,h2⟩:=hrow i hi;exact⟨gg,hA,(World.cell?_of_block (a:=⟨gg,i,none⟩) (hP.out.kp.block gg h1 (hR27.out.2.1 q gg hqn (by rw[hvq,hA];rfl)))).trans h2,Nat.lt_of_lt_of_le h1 hP.out.kp.size⟩
                 have j0:(0:Int)≤(j:Int):=by omega
                 have j1:(j:Int)<(cmp.length:Int):=by omega
                 have j2:(0:Int)≤(q:Int):=by omega
                 have j3:(q:Int)<(s.ps.length:Int):=by omega
                 have hTq:Hid (∀h,h∈T q↔(h,q)∈E):=fun h=>by rw[hTm.out q h hqn,EE]
                 have hTq2:=hTl.out q;have hz0:Hid (∀h,h∈(T q).take 0→fst E h∈left→fst E h=p):=fun h hh=>by simp at hh
                 replace htk:=zh htk;clear hGw hrow hvq hqe hgc;go_wp2
                 go_loopw [105] (fun ix wz=>∃i:Nat,i≤(T q).length∧ix=.int .i64 (i:Int)∧wz=wr∧Hid (∀h,h∈(T q).take i→fst E h∈left→fst E h=p)) (fun ix _=>(T q).length-(intOf ix).toNat)
                 case atStart=>exact⟨0,Nat.zero_le _,rfl,rfl,hz0⟩
                 case round =>
                  clear hz0;obtain⟨i,hi,rfl,hwz,hzk⟩:=hrel;subst hwz
                  by_cases hil:i<(T q).length
                  · obtain ⟨gg,rfl,hgc,hgl2⟩:=hgr.out i hil;have hhm:=(hTq.out _).1 (List.getElem_mem hil);have htk2:(T q).take (i+1)=(T q).take i++[(T q)[i]]:=List.take_succ_eq_append_getElem hil;obtain⟨h,hhe⟩:∃x,x=(T q)[i]:=⟨_,rfl⟩;rw[←hhe]at hgc hhm htk2;have hhn:h<s.ps.length:=(hin2.out _ hhm).1;have hrw:=hP.out.kp;have f1:=(hro.out.of_block hrw.size (hrw.block (S+1) hro.out.lt hR27.out.2.2.1)).cell h hhn;have f2:=(hro.out.of_block hrw.size (hrw.block (S+1) hro.out.lt hR27.out.2.2.1)).lt;rw[hF.out h hhn]at f1;have hlk2:=hP.out.look (FS (E:=E) hhn) (by omega)
                    have hcl:fst E h∈left→fst E h=p∨¬Fg E left p:=fun hl=>by
                     by_cases e:fst E h=p
                     · exact .inl e
                     · exact .inr (hnf.out h q hqm.out hhm hl e)
                    obtain⟨fh,hfh⟩:∃x,x=fst E h:=⟨_,rfl⟩
                    have hzn:Hid ((fh∈left→fh=p)→∀x,x∈(T q).take (i+1)→fst E x∈left→fst E x=p):=fun hx x hm hl=>by
                     rw[htk2]at hm
                     rcases List.mem_append.1 hm with hm | hm
                     · exact hzk.out x hm hl
                     · rw[List.mem_singleton.1 hm,←hfh]at hl ⊢;exact hx hl
                    have hfn:fh<s.ps.length:=by rw[hfh];exact FS hhn
                    rw[←hfh]at f1 hlk2 hcl;have i0':(0:Int)≤(i:Int):=by omega
                    have i1':(i:Int)<((T q).length:Int):=by omega
                    have i2':(0:Int)≤(h:Int):=by omega
                    have i3':(h:Int)<(s.ps.length:Int):=by omega
                    clear hhe hfh htk2 hrw hgr
                    by_cases hfl:fh∈left
                    · rw [if_pos hfl,Cj hfl]at hlk2
                      by_cases hfe:fh=p
                      · have m1:((fh:Int) != (p:Int))=false:=by rw[bne_eq_false_iff_eq];omega
                        have hz2:=zh (hzn.out fun _=>hfe);subst hfe;clear hcl hzn;go_wp2;exact⟨⟨i+1,by omega,by go_num,trivial,hz2⟩,by simp only[intOf];omega⟩
                      · have m1:((fh:Int) != (p:Int))=true:=by rw[bne_iff_ne];omega
                        have hno2:Hid (∀x,x<p+1→x∈left→¬Fg E left x):=fun x hx hxl=>by
                         by_cases e:x=p
                         · subst e;exact(hcl hfl).resolve_left hfe
                         · exact hno.out x (by omega) hxl
                        replace hfe:=zh hfe;clear hcl hzn;go_wp2;exact⟨⟨p+1,by omega,rfl,by go_num,trivial,hno2⟩,by simp only[intOf];omega⟩
                    · rw[if_neg hfl,BL hfl]at hlk2;have hz2:=zh (hzn.out fun c=>absurd c hfl);clear hcl hzn;go_wp2;exact⟨⟨i+1,by omega,by go_num,trivial,hz2⟩,by simp only[intOf];omega⟩
                  · obtain rfl:i=(T q).length:=by omega
                    have hck2:Hid (∀q,q∈cmp.take (j+1)→∀h,(h,q)∈E→fst E h∈left→fst E h=p):=fun x hx h he hl=>by
                     rw[htk.out]at hx
                     rcases List.mem_append.1 hx with hx | hx
                     · exact hck.out x hx h he hl
                     · rw[List.mem_singleton.1 hx]at he;exact hzk.out h (by rw[List.take_length];exact(hTq.out h).2 he) hl
                    have hcn2:=hcn.out;clear hck hzk hgr;go_wp2;exact⟨⟨j+1,by omega,by go_num,trivial,hck2⟩,by simp only[intOf];omega⟩
               · obtain rfl:j=cmp.length:=by omega
                 have hFree:=hfr.out fun q hq=>hck.out q (by rw[List.take_length];exact hq)
                 have hpk:EV E left=some p:=RP hP.out.st.ok hpl hFree fun x hx hf=>by
                  by_cases c:p≤x
                  · exact c
                  · exact absurd hf (hno.out x (by omega) hx)
                 obtain⟨hrow,hsz,hst⟩:=hP.out.step hpk hpn (by omega) hS7;have hvp':=hvp.out;rw[hvp']at hrow hsz hst;have had:Hid (∀j u,[(Value.slice Ap2 cmp.length cp2)][j]? = some u→(wr.alloc (.cells #[.slice Ap2 cmp.length cp2] 26)).cell? (Addr.add ⟨wr.heap.size,0,none⟩ j)=some u):=Cf wr _ _
                 have hlp:Hid (pre.length≤100):=by
                  have h1:=CR s.ps.length pre (hP.out.pre_nodup hin2.out) fun x hx=>(hP.out.st.had x hx).1;unfold Hid;omega
                 have hle:Hid ((left.erase p).length<gk):=by
                  rw[hm,List.length_erase_of_mem hpl];have:=List.length_pos_of_mem hpl;unfold Hid;omega
                 have hpl2:Hid ((pre++[p]).length=pre.length+1):=by unfold Hid;simp
                 obtain⟨g0,hg0,hgz⟩:=Option.map_eq_some_iff.1 QJ;simp only[Prod.mk.injEq]at hgz;obtain⟨gz0,gz1,gz2⟩:=hgz;replace hrow:=zh hrow;replace hsz:=zh hsz;replace hst:=zh hst;replace hg0:=zh hg0;replace gz0:=zh gz0;replace gz1:=zh gz1;replace gz2:=zh gz2;clear hck hFree hpk hvp' hP
                 go_wp2_with (at_builtin;refine wpList_append_new _ rfl _ _ 66 rfl w7.heap.size 26 g0 (.slice none 0 0) 1 24 Tryz.underlying66 hg0.out gz0.out gz1.out gz2.out rfl (by decide) (.slice A pre.length c) pre.length _ rfl hrow.out ⟨wr.heap.size,0,none⟩ 1 1 [.slice Ap2 cmp.length cp2] rfl rfl had.out (AU _ rfl) (by decide) (by have:=hlp.out;unfold maxLen;omega) (by have:=hlp.out;omega) hsz.out ?_;intro vb9 wb9 ho9 hg9 hn9;obtain⟨W4,hrun4,hP4⟩:=hst.out vb9 wb9 ho9 hg9;obtain⟨A9,c9,rfl⟩:=E9 ho9;replace hP4:=zh hP4;clear ho9 hg9 hn9)
                 rw[Exit.noGoto_normal];go_wp2
                 go_roundg (left.erase p).length
                 case measure=>exact hle.out
                 case rel=>exact⟨A9,c9,pre++[p],left.erase p,rfl,by rw[hpl2.out],by have h:=hP4.out;rwa [←hpl2.out]at h⟩
            · rw [if_neg hpl,BL hpl]at hlk
              have hno2:Hid (∀x,x<p+1→x∈left→¬Fg E left x):=fun x hx hxl=>by
               by_cases e:x=p
               · subst e;exact absurd hxl hpl
               · exact hno.out x (by omega) hxl
              clear hpl;go_wp2;exact⟨⟨p+1,by omega,rfl,by go_num,trivial,hno2⟩,by simp only[intOf];omega⟩
          · exfalso;obtain⟨x,hx,hf⟩:=hP.out.st.ok.free hl0;exact hno.out x (by have:=(hleft.out x hx).1;omega) hx hf
end Ci
end
section
open Go.RowKit Go.Shelf
namespace Sh
open Nt Ci
theorem OL {S:Rat→Bool} {L:List Lp} {u:List Nat} {val:Nat→Rat} {p:Nat} (h:p∉u):Ck S L u val p=val p:=by
 unfold Ck
 cases Ax S u.length u.length (AV L u val) with
 | ok M=>exact if_neg h
 | error _=>rfl
theorem CY {l:List Nat} {i x:Nat} (h:i<l.length):x∈l.take (i+1)↔x∈l.take i∨x=l[i]:=by
 rw[List.take_succ_eq_append_getElem h,List.mem_append,List.mem_singleton]
theorem IZ {S:Rat→Bool} {L:List Lp} {u:List Nat}:∀(us:List (List Nat)) (val:Nat→Rat),Mf S L (us++[u]) val=Ck S L u (Mf S L us val)
 | [],_=>rfl
 | _::us,_=>IZ us _
theorem Ready.take {L:List Lp} {F:List Nat}:∀{us:List (List Nat)} {done:List Nat} (k:Nat),Ready L F done us→Ready L F done (us.take k)
 | [],_,k,_=>by rw[List.take_nil];trivial
 | _::_,_,0,_=>trivial
 | _::us,_,k+1,h=>⟨h.1,Ready.take k h.2⟩
theorem Ready.at {L:List Lp} {F:List Nat}:∀{us:List (List Nat)} {done:List Nat} (k:Nat) (hk:k<us.length),Ready L F done us→Nxt L F (done++(us.take k).flatten) us[k]
 | u::us,done,0,_,h=>by simpa using h.1
 | u::us,done,k+1,hk,h=>by
   have:=Ready.at (done:=done++u) k (by simpa using hk) h.2
   simpa [List.append_assoc] using this
noncomputable def D6 (L:List Lp) (F:List Nat) (us:List (List Nat)) (k:Nat):Nat→Rat:=Mf SQ L (us.take k) fun p=>if p∈F then 1 else 0
theorem M8 {L:List Lp} {F:List Nat} {us:List (List Nat)} {k:Nat} (hk:k<us.length):D6 L F us (k+1)=Ck SQ L us[k] (D6 L F us k):=by
 unfold D6;rw[List.take_succ_eq_append_getElem hk,IZ]
theorem OM {us:List (List Nat)} {k:Nat} (hk:k<us.length):(us.take k).flatten.length+us[k].length≤us.flatten.length:=by
 have h:=congrArg (fun l=>(List.flatten l).length) (List.take_append_drop (k+1) us);simp only[List.flatten_append,List.length_append,List.take_succ_eq_append_getElem hk,List.flatten_cons,List.flatten_nil,List.append_nil]at h;omega
theorem ON {n:Nat} {L:List Lp} {F:List Nat} {us:List (List Nat)} (hL:Caps n L) (hr:Ready L F [] us) (h16:us.flatten.length≤16) (k:Nat) :
 ∃D,D≤6000^16∧Inv L F (us.take k).flatten (D6 L F us k) D:=by
 have hlen:(us.take k).flatten.length≤16:=by
  have h:=congrArg (fun l=>(List.flatten l).length) (List.take_append_drop k us);simp only[List.flatten_append,List.length_append]at h;omega
 obtain⟨D,hD⟩:=Inv.run hL J6 (us.take k) [] _ 1 (Inv.start L F) (hr.take k) (by simpa using hlen);rw[List.nil_append]at hD;exact⟨D,Nat.le_trans hD.dle (Nat.pow_le_pow_right (by omega) hlen),hD⟩
theorem Inv.vals {L:List Lp} {F done:List Nat} {val:Nat→Rat} {D:Nat} (h:Inv L F done val D) (hD:D≤6000^16):Vals val D:=⟨h.rng,h.dp,hD,h.whole⟩
theorem M9 {L:List Lp} {F:List Nat} {us:List (List Nat)} (hr:Ready L F [] us) {k:Nat} (hk:k<us.length):Nxt L F (us.take k).flatten us[k]:=by
 have:=hr.at k hk
 rwa [List.nil_append]at this
noncomputable def Ie (L:List Lp) (u:List Nat) (val:Nat→Rat) (i:Nat):Nat→Rat:=fun p=>if p∈u.take i then Ck SQ L u val p else val p
theorem Rp {L:List Lp} {u:List Nat} {val:Nat→Rat}:Ie L u val 0=val:=by funext p;unfold Ie;simp
theorem Rr {L:List Lp} {u:List Nat} {val:Nat→Rat} {i:Nat} (h:i<u.length) (x:Nat):(if x=u[i] then Ck SQ L u val u[i] else Ie L u val i x)=Ie L u val (i+1) x:=by
 unfold Ie
 by_cases e:x=u[i]
 · rw[if_pos e,if_pos ((CY h).2 (.inr e)),e]
 · rw[if_neg e]
   by_cases e2:x∈u.take i
   · rw[if_pos e2,if_pos ((CY h).2 (.inl e2))]
   · rw[if_neg e2,if_neg fun c=>((CY h).1 c).elim e2 e]
theorem Td {L:List Lp} {u:List Nat} {val:Nat→Rat}:Ie L u val u.length=Ck SQ L u val:=by
 funext p
 unfold Ie;rw[List.take_length]
 by_cases e:p∈u
 · rw[if_pos e]
 · rw[if_neg e,OL e]
noncomputable def GK (F:List Nat) (k:Nat):Nat→Rat:=fun p=>if p∈F.take k then 1 else 0
theorem OO {F:List Nat}:GK F 0=fun _=>0:=by funext p;unfold GK;simp
theorem OP {F:List Nat} {k p:Nat} (h:F[k]? = some p) (x:Nat):(if x=p then (1:Rat) else GK F k x)=GK F (k+1) x:=by
 obtain⟨hk,rfl⟩:=List.getElem?_eq_some_iff.1 h;unfold GK
 by_cases e:x=F[k]
 · rw[if_pos e,if_pos ((CY hk).2 (.inr e))]
 · rw[if_neg e]
   by_cases e2:x∈F.take k
   · rw[if_pos e2,if_pos ((CY hk).2 (.inl e2))]
   · rw[if_neg e2,if_neg fun c=>((CY hk).1 c).elim e2 e]
theorem Rs {L:List Lp} {F:List Nat} {us:List (List Nat)}:GK F F.length=D6 L F us 0:=by
 funext p;unfold GK D6;rw[List.take_length,List.take_zero];rfl
theorem OQ {s:SR} {l:List (Option Addr×Nat×List Int)} (h:bare l=DI s) {k:Nat} (hk:k<l.length):∃hc:k<(An s.ps.length (edges s)).length,l[k].2.2=((An s.ps.length (edges s))[k]).map fun(q:Nat)=>(q:Int):=by
 have hl:=congrArg List.length h;simp only[bare,DI,List.length_map]at hl;refine⟨by omega,?_⟩;have h1:(bare l)[k]'(by simpa [bare] using hk)=(DI s)[k]'(by simp[DI];omega):=by simp only[h]
 simpa [bare,DI] using h1
noncomputable def CH (n:Nat) (E:List (Nat×Nat)) (F:List Nat) (t:Nat):List (List Nat):=((An n E).take t).map (unk E F)
noncomputable def Gq (n:Nat) (E:List (Nat×Nat)) (F:List Nat) (t:Nat):List (List Nat):=(CH n E F t).filter fun u=>decide (u≠[])
section
variable {n:Nat} {E:List (Nat×Nat)} {F:List Nat} {t:Nat}
theorem ER (h:t<(An n E).length):CH n E F (t+1)=CH n E F t++[unk E F (An n E)[t]]:=by
 unfold CH;rw[List.take_succ_eq_append_getElem h,List.map_append,List.map_singleton]
theorem EF:CH n E F (An n E).length=BJ n E F:=by unfold CH BJ;rw[List.take_length]
theorem Rt:Gq n E F (An n E).length=GA n E F:=by unfold Gq GA;rw[EF]
theorem Ru (h:t<(An n E).length) (h0:unk E F (An n E)[t]=[]):Gq n E F (t+1)=Gq n E F t:=by
 unfold Gq;rw[ER h,List.filter_append,h0];simp
theorem OR (h:t<(An n E).length) (h0:unk E F (An n E)[t]≠[]):Gq n E F (t+1)=Gq n E F t++[unk E F (An n E)[t]]:=by
 unfold Gq;rw[ER h,List.filter_append];simp[h0]
theorem Ja:(CH n E F t).flatten.length≤(BJ n E F).flatten.length:=by
 have e:CH n E F t=(BJ n E F).take t:=by unfold CH BJ;rw[List.map_take]
 rw[e];have h:=congrArg (fun l=>(List.flatten l).length) (List.take_append_drop t (BJ n E F));simp only[List.flatten_append,List.length_append]at h;omega
theorem MA (h:t<(An n E).length):(CH n E F (t+1)).flatten.length=(CH n E F t).flatten.length+(unk E F (An n E)[t]).length:=by
 rw[ER h,List.flatten_append,List.length_append];simp
theorem KT:(Gq n E F t).length≤t:=by
 unfold Gq CH;refine Nat.le_trans (List.length_filter_le _ _) ?_;rw[List.length_map,List.length_take];omega
theorem Rv (h:t<(An n E).length) (h8:8<(unk E F (An n E)[t]).length):tooMany n E F=true:=by
 unfold tooMany;rw[Bool.or_eq_true,List.any_eq_true];refine .inl ⟨_,?_,decide_eq_true h8⟩;unfold BJ;exact List.mem_map.2 ⟨_,List.getElem_mem h,rfl⟩
theorem Rx (h:16<(CH n E F (An n E).length).flatten.length):tooMany n E F=true:=by
 unfold tooMany;rw[EF]at h;rw[decide_eq_true h,Bool.or_true]
theorem Te (h:(CH n E F (An n E).length).flatten.length≤16) (h8:∀u,u∈CH n E F (An n E).length→u.length≤8):tooMany n E F=false:=by
 unfold tooMany;rw[EF]at h h8;rw[decide_eq_false (by omega),Bool.or_false];refine Bool.eq_false_iff.2 fun c=>?_;obtain⟨u,hu,h9⟩:=List.any_eq_true.1 c;have:=of_decide_eq_true h9;have:=h8 u hu;omega
theorem Ry {c:List Nat} {i:Nat} (h:i<c.length):unk E F (c.take (i+1))=unk E F (c.take i)++if 0<rk E F c[i] then [c[i]] else []:=by
 unfold unk;rw[List.take_succ_eq_append_getElem h,List.filter_append]
 congr 1
 by_cases d:0<rk E F c[i]
 · simp[d]
 · simp[d]
theorem OS {k i:Nat} (hE:InN n E) (hk:k<(An n E).length) (hi:i<((An n E)[k]).length):((An n E)[k])[i]<n∧at' n E ((An n E)[k])[i]=k:=by
 have hm:=List.getElem_mem hi
 have hall:∀q,q∈(An n E)[k]→q<n:=by
  rw[EO];exact fun q hq=>(C6.1 hq).1
 have h1:((An n E)[k])[i]<n:=hall _ hm;exact⟨h1,((Gi hE h1 hk).1 hm).symm⟩
theorem If (hE:InN n E) {t:Nat} (h:t<(An n E).length):∀p,p∈(An n E)[t]→p<n:=fun p hp=>by
 obtain⟨i,hi,rfl⟩:=List.getElem_of_mem hp;exact(OS hE h hi).1
theorem Nq {c:List Nat}:(unk E F c).length≤c.length:=List.length_filter_le _ _
theorem OT (hE:InN n E) {u:List Nat} (h:u∈GA n E F):(∀p,p∈u→p<n)∧u∈CH n E F (An n E).length:=by
 have h1:=(List.mem_filter.1 h).1;refine⟨fun p hp=>?_,by rw[EF];exact h1⟩;obtain⟨c,hc,rfl⟩:=List.mem_map.1 h1;obtain⟨t,ht,rfl⟩:=List.getElem_of_mem hc;exact If hE ht p (List.mem_filter.1 hp).1
theorem Tf {E:List Ent} (h:(E.map Ent.x).Nodup) {k:Nat} (hk:k<E.length):E[k].x∉(E.take k).map Ent.x:=fun hm=>by
 obtain⟨e,he,hx⟩:=List.mem_map.1 hm;obtain⟨j,hj,rfl⟩:=List.getElem_of_mem he;rw[List.length_take]at hj;rw[List.getElem_take]at hx;have:=List.pairwise_iff_getElem.1 h j k (by rw[List.length_map];omega) (by rw[List.length_map];omega) (by omega);rw[List.getElem_map,List.getElem_map]at this;exact this hx
theorem KU {L:List Lp} (hL:Caps n L):Ready L F [] (GA n (Ae L) F):=(Gj hL.inN).drop_nil
end
end Sh
end
end Go.Proofs.YtilodknkildkbaaGreatDoor

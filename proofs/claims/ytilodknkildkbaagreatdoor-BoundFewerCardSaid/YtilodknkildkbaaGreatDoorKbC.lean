/- Texts that the proof needs: RatOps, RatOf, RatText, RatWrap, CirWrap, CirNames, CirUnits, CirMap, CirGood7, CirGood, CirWell, CirWrapS, RatFloor, RatDig, RatDuo. -/
import Derived.Lib.IndexMore
import Derived.Shelf.Vars
import Derived.SizedLaws
import Derived.Lib.SmallJoins
import Derived.DataShut
import Derived.WideKeyArgs
import Derived.Deep.Slices
import Derived.Deep.Strs
import Derived.Maps.OwnSet
import Derived.Maps.Views
import Derived.WalkKit
import Derived.IntWalk
import Derived.Deep.RegionHeld3
import Derived.LaidEql
import Derived.Test.YtilodknkildkbaaGreatDoorKbA
import Derived.Test.YtilodknkildkbaaGreatDoorKbB
set_option maxHeartbeats 16000000
set_option maxRecDepth 1000000
namespace Go.Proofs.YtilodknkildkbaaGreatDoor
section
open Go.RowKit Go.Shelf
namespace Nt
theorem AM {g:Bool} {n d:ByteArray} (h:At g n d=true):n.size≤300∧d.size≤300:=by
 unfold At at h;simp only[Bool.and_eq_true]at h;exact⟨AN h.1,AN h.2.1⟩
theorem B0 {q:Rat} (h:ShortQ q):(T (some q.num.natAbs)).size≤140∧(T (some q.den)).size≤140:=⟨(GP _).2 h.1,(GP _).2 h.2⟩
theorem AO {q:Rat} (h1:(T (some q.num.natAbs)).size≤140) (h2:(T (some q.den)).size≤140):ShortQ q:=⟨(GP _).1 h1,(GP _).1 h2⟩
theorem CA {q:Rat} (h:q≠0):q.num≠0:=fun e=>h (Rat.num_eq_zero.1 e)
theorem Tu (g1 g2:Bool) (n1 d1 n2 d2:ByteArray) (r:Bool) (n d:ByteArray) (E:Int) (w:World) (hE:Env w)
 (hr:∀W,Env W→Calls Tryz.prog 63 #[.agg #[.bool false,.func (.func 88) #[] #[]],.agg #[.bool g1,.string n1,.string d1],.agg #[.bool g2,.string n2,.string d2]] W fun e w'=>e=.returned (.tuple #[.agg #[.bool r,.string n,.string d],.int .i64 E])∧Below W.heap.size W w') :
 Calls Tryz.prog 41 #[.agg #[.bool g1,.string n1,.string d1],.agg #[.bool g2,.string n2,.string d2]] w fun e w'=>e=.returned (.tuple #[.agg #[.bool r,.string n,.string d],.int .i64 E])∧Below w.heap.size w w':=by
 have hQE:=zh (TwoBoxes.new w g1 g2 n1 d1 n2 d2);have hBE:=zh (Cv w g1 g2 n1 d1 n2 d2);replace hE:=zh hE;replace hr:=zh hr;go_enter Tryz.func41,Tryz.ntmps41
 go_wp2_with fail
 refine(hr.out _ (hE.out.below hBE.out)).mono ?_;rintro e w1 ⟨rfl,hb1⟩;have q1:=hQE.out.below hb1;have hB1:=zh (hBE.out.trans (hb1.mono hBE.out.size));obtain⟨c1,c2,c3,c4,c5,c6⟩:=q1.2.2.facts;have hz1:=q1.2.2.lt;clear hb1;replace q1:=zh q1;go_wp2;refine bodyPost_ret (v:=.tuple #[.agg #[.bool r,.string n,.string d],.int .i64 E]) (by simp[results,Tryz.results41,go_sem,c1,c2,c3]) rfl ⟨rfl,?_⟩
 repeat refine Below.setCell ?_ (by simp only[];omega) _
 exact hB1.out
theorem I6 (p q:Rat) (hp:ShortQ p) (hq:ShortQ q) (w:World) (hE:Env w) :
 Calls Tryz.prog 41 #[qv p,qv q] w fun e w'=>e=.returned (.tuple #[qv (p+q),.int .i64 0])∧Below w.heap.size w w':=by
 have l1:=B0 hp;have l2:=B0 hq;refine Tu _ _ _ _ _ _ _ _ _ _ w hE fun W hW=>?_;exact Sk _ _ _ _ _ _ W hW (by omega) (by omega) (by omega) (by omega) (AI hp.ok) (AI hq.ok) l1.1 l1.2 l2.1 l2.2 _ _ _ _ fun W2 h2=>Tt p q hp hq W2 h2
theorem U7 (p q:Rat) (hp:OkQ p) (hq:OkQ q) (hl:¬(ShortQ p∧ShortQ q)) (w:World) (hE:Env w) :
 Calls Tryz.prog 41 #[qv p,qv q] w fun e w'=>e=.returned (.tuple #[zv,.int .i64 2])∧Below w.heap.size w w':=by
 have v1:=AI hp;have v2:=AI hq;have l1:=AM v1;have l2:=AM v2;refine Tu _ _ _ _ _ _ false ⟨#[]⟩ ⟨#[]⟩ 2 w hE fun W hW=>?_;exact F9 false 88 _ _ _ _ _ _ W hW (by omega) (by omega) (by omega) (by omega) v1 v2 (.inl rfl) fun h=>hl ⟨AO h.1 h.2.1,AO h.2.2.1 h.2.2.2⟩
theorem Tv (g1 g2:Bool) (n1 d1 n2 d2:ByteArray) (r:Bool) (n d:ByteArray) (E:Int) (w:World) (hE:Env w)
 (hr:∀W,Env W→Calls Tryz.prog 63 #[.agg #[.bool false,.func (.func 147) #[] #[]],.agg #[.bool g1,.string n1,.string d1],.agg #[.bool g2,.string n2,.string d2]] W fun e w'=>e=.returned (.tuple #[.agg #[.bool r,.string n,.string d],.int .i64 E])∧Below W.heap.size W w') :
 Calls Tryz.prog 108 #[.agg #[.bool g1,.string n1,.string d1],.agg #[.bool g2,.string n2,.string d2]] w fun e w'=>e=.returned (.tuple #[.agg #[.bool r,.string n,.string d],.int .i64 E])∧Below w.heap.size w w':=by
 have hQE:=zh (TwoBoxes.new w g1 g2 n1 d1 n2 d2);have hBE:=zh (Cv w g1 g2 n1 d1 n2 d2);replace hE:=zh hE;replace hr:=zh hr;go_enter Tryz.func108,Tryz.ntmps108
 go_wp2_with fail
 refine(hr.out _ (hE.out.below hBE.out)).mono ?_;rintro e w1 ⟨rfl,hb1⟩;have q1:=hQE.out.below hb1;have hB1:=zh (hBE.out.trans (hb1.mono hBE.out.size));obtain⟨c1,c2,c3,c4,c5,c6⟩:=q1.2.2.facts;have hz1:=q1.2.2.lt;clear hb1;replace q1:=zh q1;go_wp2;refine bodyPost_ret (v:=.tuple #[.agg #[.bool r,.string n,.string d],.int .i64 E]) (by simp[results,Tryz.results108,go_sem,c1,c2,c3]) rfl ⟨rfl,?_⟩
 repeat refine Below.setCell ?_ (by simp only[];omega) _
 exact hB1.out
theorem I7 (p q:Rat) (hp:ShortQ p) (hq:ShortQ q) (w:World) (hE:Env w) :
 Calls Tryz.prog 108 #[qv p,qv q] w fun e w'=>e=.returned (.tuple #[qv (p-q),.int .i64 0])∧Below w.heap.size w w':=by
 have l1:=B0 hp;have l2:=B0 hq;refine Tv _ _ _ _ _ _ _ _ _ _ w hE fun W hW=>?_;exact Sm _ _ _ _ _ _ W hW (by omega) (by omega) (by omega) (by omega) (AI hp.ok) (AI hq.ok) l1.1 l1.2 l2.1 l2.2 _ _ _ _ fun W2 h2=>TN p q hp hq W2 h2
theorem PS (p q:Rat) (hp:OkQ p) (hq:OkQ q) (hl:¬(ShortQ p∧ShortQ q)) (w:World) (hE:Env w) :
 Calls Tryz.prog 108 #[qv p,qv q] w fun e w'=>e=.returned (.tuple #[zv,.int .i64 2])∧Below w.heap.size w w':=by
 have v1:=AI hp;have v2:=AI hq;have l1:=AM v1;have l2:=AM v2;refine Tv _ _ _ _ _ _ false ⟨#[]⟩ ⟨#[]⟩ 2 w hE fun W hW=>?_;exact F9 false 147 _ _ _ _ _ _ W hW (by omega) (by omega) (by omega) (by omega) v1 v2 (.inl rfl) fun h=>hl ⟨AO h.1 h.2.1,AO h.2.2.1 h.2.2.2⟩
theorem Tw (g1 g2:Bool) (n1 d1 n2 d2:ByteArray) (r:Bool) (n d:ByteArray) (E:Int) (w:World) (hE:Env w)
 (hr:∀W,Env W→Calls Tryz.prog 63 #[.agg #[.bool false,.func (.func 62) #[] #[]],.agg #[.bool g1,.string n1,.string d1],.agg #[.bool g2,.string n2,.string d2]] W fun e w'=>e=.returned (.tuple #[.agg #[.bool r,.string n,.string d],.int .i64 E])∧Below W.heap.size W w') :
 Calls Tryz.prog 26 #[.agg #[.bool g1,.string n1,.string d1],.agg #[.bool g2,.string n2,.string d2]] w fun e w'=>e=.returned (.tuple #[.agg #[.bool r,.string n,.string d],.int .i64 E])∧Below w.heap.size w w':=by
 have hQE:=zh (TwoBoxes.new w g1 g2 n1 d1 n2 d2);have hBE:=zh (Cv w g1 g2 n1 d1 n2 d2);replace hE:=zh hE;replace hr:=zh hr;go_enter Tryz.func26,Tryz.ntmps26
 go_wp2_with fail
 refine(hr.out _ (hE.out.below hBE.out)).mono ?_;rintro e w1 ⟨rfl,hb1⟩;have q1:=hQE.out.below hb1;have hB1:=zh (hBE.out.trans (hb1.mono hBE.out.size));obtain⟨c1,c2,c3,c4,c5,c6⟩:=q1.2.2.facts;have hz1:=q1.2.2.lt;clear hb1;replace q1:=zh q1;go_wp2;refine bodyPost_ret (v:=.tuple #[.agg #[.bool r,.string n,.string d],.int .i64 E]) (by simp[results,Tryz.results26,go_sem,c1,c2,c3]) rfl ⟨rfl,?_⟩
 repeat refine Below.setCell ?_ (by simp only[];omega) _
 exact hB1.out
theorem EK (p q:Rat) (hp:ShortQ p) (hq:ShortQ q) (w:World) (hE:Env w) :
 Calls Tryz.prog 26 #[qv p,qv q] w fun e w'=>e=.returned (.tuple #[qv (p*q),.int .i64 0])∧Below w.heap.size w w':=by
 have l1:=B0 hp;have l2:=B0 hq;refine Tw _ _ _ _ _ _ _ _ _ _ w hE fun W hW=>?_;exact Ks _ _ _ _ _ _ W hW (by omega) (by omega) (by omega) (by omega) (AI hp.ok) (AI hq.ok) l1.1 l1.2 l2.1 l2.2 _ _ _ _ fun W2 h2=>NW p q hp hq W2 h2
theorem PT (p q:Rat) (hp:OkQ p) (hq:OkQ q) (hl:¬(ShortQ p∧ShortQ q)) (w:World) (hE:Env w) :
 Calls Tryz.prog 26 #[qv p,qv q] w fun e w'=>e=.returned (.tuple #[zv,.int .i64 2])∧Below w.heap.size w w':=by
 have v1:=AI hp;have v2:=AI hq;have l1:=AM v1;have l2:=AM v2;refine Tw _ _ _ _ _ _ false ⟨#[]⟩ ⟨#[]⟩ 2 w hE fun W hW=>?_;exact F9 false 62 _ _ _ _ _ _ W hW (by omega) (by omega) (by omega) (by omega) v1 v2 (.inl rfl) fun h=>hl ⟨AO h.1 h.2.1,AO h.2.2.1 h.2.2.2⟩
theorem Tx (g1 g2:Bool) (n1 d1 n2 d2:ByteArray) (r:Bool) (n d:ByteArray) (E:Int) (w:World) (hE:Env w)
 (hr:∀W,Env W→Calls Tryz.prog 63 #[.agg #[.bool true,.func (.func 146) #[] #[]],.agg #[.bool g1,.string n1,.string d1],.agg #[.bool g2,.string n2,.string d2]] W fun e w'=>e=.returned (.tuple #[.agg #[.bool r,.string n,.string d],.int .i64 E])∧Below W.heap.size W w') :
 Calls Tryz.prog 106 #[.agg #[.bool g1,.string n1,.string d1],.agg #[.bool g2,.string n2,.string d2]] w fun e w'=>e=.returned (.tuple #[.agg #[.bool r,.string n,.string d],.int .i64 E])∧Below w.heap.size w w':=by
 have hQE:=zh (TwoBoxes.new w g1 g2 n1 d1 n2 d2);have hBE:=zh (Cv w g1 g2 n1 d1 n2 d2);replace hE:=zh hE;replace hr:=zh hr;go_enter Tryz.func106,Tryz.ntmps106
 go_wp2_with fail
 refine(hr.out _ (hE.out.below hBE.out)).mono ?_;rintro e w1 ⟨rfl,hb1⟩;have q1:=hQE.out.below hb1;have hB1:=zh (hBE.out.trans (hb1.mono hBE.out.size));obtain⟨c1,c2,c3,c4,c5,c6⟩:=q1.2.2.facts;have hz1:=q1.2.2.lt;clear hb1;replace q1:=zh q1;go_wp2;refine bodyPost_ret (v:=.tuple #[.agg #[.bool r,.string n,.string d],.int .i64 E]) (by simp[results,Tryz.results106,go_sem,c1,c2,c3]) rfl ⟨rfl,?_⟩
 repeat refine Below.setCell ?_ (by simp only[];omega) _
 exact hB1.out
theorem NX (p q:Rat) (hp:ShortQ p) (hq:ShortQ q) (h0:q≠0) (w:World) (hE:Env w) :
 Calls Tryz.prog 106 #[qv p,qv q] w fun e w'=>e=.returned (.tuple #[qv (p/q),.int .i64 0])∧Below w.heap.size w w':=by
 have l1:=B0 hp;have l2:=B0 hq;have hn:=CA h0;have hz:=Be q.num.natAbs;rw[decide_eq_false (by omega)]at hz;refine Tx _ _ _ _ _ _ _ _ _ _ w hE fun W hW=>?_;exact Sn _ _ _ _ _ _ W hW (by omega) (by omega) (by omega) (by omega) (AI hp.ok) (AI hq.ok) hz l1.1 l1.2 l2.1 l2.2 _ _ _ _ fun W2 h2=>TL p q hp hq hn W2 h2
theorem PU (p q:Rat) (hp:OkQ p) (hq:OkQ q) (h0:q≠0) (hl:¬(ShortQ p∧ShortQ q)) (w:World) (hE:Env w) :
 Calls Tryz.prog 106 #[qv p,qv q] w fun e w'=>e=.returned (.tuple #[zv,.int .i64 2])∧Below w.heap.size w w':=by
 have v1:=AI hp;have v2:=AI hq;have l1:=AM v1;have l2:=AM v2;have hn:=CA h0;have hz:=Be q.num.natAbs;rw[decide_eq_false (by omega)]at hz;refine Tx _ _ _ _ _ _ false ⟨#[]⟩ ⟨#[]⟩ 2 w hE fun W hW=>?_;exact F9 true 146 _ _ _ _ _ _ W hW (by omega) (by omega) (by omega) (by omega) v1 v2 (.inr ⟨rfl,hz⟩) fun h=>hl ⟨AO h.1 h.2.1,AO h.2.2.1 h.2.2.2⟩
def PV (p q:Rat):Int:=if p<q then -1 else if p=q then 0 else 1
theorem So (q:Rat):q.num<0↔q<0:=by
 rw[Rat.lt_iff]
 show _↔q.num*1<0*_
 omega
theorem Gy (p q:Rat):(p-q).num<0↔p<q:=by
 rw[So,Rat.sub_lt_iff,Rat.zero_add]
theorem FA (p q:Rat):p-q=0↔p=q:=by
 constructor
 · intro h;have e:p-q+q=0+q:=congrArg (·+q) h
   rwa [Rat.sub_add_cancel,Rat.zero_add]at e
 · intro h;rw[h];exact Rat.sub_self
theorem NY (g1 g2:Bool) (n1 d1 n2 d2:ByteArray) (r:Bool) (n d:ByteArray) (E c f:Int) (w:World) (hE:Env w)
 (hs:∀W,Env W→Calls Tryz.prog 108 #[.agg #[.bool g1,.string n1,.string d1],.agg #[.bool g2,.string n2,.string d2]] W fun e w'=>e=.returned (.tuple #[.agg #[.bool r,.string n,.string d],.int .i64 E])∧Below W.heap.size W w')
 (hk:(E≠0∧c=0∧f=E)∨(E=0∧r=true∧c=-1∧f=0)∨(E=0∧r=false∧(n.toList==[48])=true∧c=0∧f=0)∨(E=0∧r=false∧(n.toList==[48])=false∧c=1∧f=0)) :
 Calls Tryz.prog 57 #[.agg #[.bool g1,.string n1,.string d1],.agg #[.bool g2,.string n2,.string d2]] w fun e w'=>e=.returned (.tuple #[.int .i64 c,.int .i64 f])∧Below w.heap.size w w':=by
 have hBE:Hid (Below w.heap.size w ((w.alloc (.cells #[.bool g1,.string n1,.string d1] 40)).alloc (.cells #[.bool g2,.string n2,.string d2] 40))):=((Below.refl _ w).alloc (Nat.le_refl _) _).alloc (by simp) _;replace hE:=zh hE;replace hs:=zh hs
 rcases hk with⟨h1,rfl,rfl⟩ | ⟨rfl,rfl,rfl,rfl⟩ | ⟨rfl,rfl,h1,rfl,rfl⟩ | ⟨rfl,rfl,h1,rfl,rfl⟩
 rotate_left
 all_goals
  go_enter Tryz.func57,Tryz.ntmps57
  go_wp2_with fail
  refine(hs.out _ (hE.out.below hBE.out)).mono ?_;rintro e w1 ⟨rfl,hb1⟩;have hB1:=zh (hBE.out.trans (hb1.mono hBE.out.size));clear hb1;go_wp2;go_ret2;exact⟨rfl,hB1.out.alloc hB1.out.size _⟩
theorem Fb (p q:Rat) (hp:ShortQ p) (hq:ShortQ q) (w:World) (hE:Env w) :
 Calls Tryz.prog 57 #[qv p,qv q] w fun e w'=>e=.returned (.tuple #[.int .i64 (PV p q),.int .i64 0])∧Below w.heap.size w w':=by
 refine NY _ _ _ _ _ _ _ _ _ 0 (PV p q) 0 w hE (fun W hW=>I7 p q hp hq W hW) ?_;unfold PV;rw[Be]
 by_cases h1:p<q
 · exact .inr (.inl ⟨rfl,decide_eq_true ((Gy p q).2 h1),if_pos h1,rfl⟩)
 · have hn:=(not_congr (Gy p q)).2 h1;rw[if_neg h1]
   by_cases h2:p=q
   · refine .inr (.inr (.inl ⟨rfl,decide_eq_false hn,?_,if_pos h2,rfl⟩));rw[(FA p q).2 h2];rfl
   · refine .inr (.inr (.inr ⟨rfl,decide_eq_false hn,?_,if_neg h2,rfl⟩));have h3:=CA (fun h=>h2 ((FA p q).1 h));exact decide_eq_false (by omega)
end Nt
end
section
open Go.RowKit Go.Shelf
namespace Nt
theorem LD (n:Int):Lib.trimPrefix (Lib.itoa n) [45]=Lib.decDigits n.natAbs:=by
 unfold Lib.itoa
 by_cases h:n<0
 · rw[if_pos h];simp[Lib.trimPrefix,Lib.hasPrefix]
 · rw [if_neg h];have e:n.toNat=n.natAbs:=by omega
   rw[e];unfold Lib.trimPrefix Lib.hasPrefix;rw[if_neg];intro hp;have hd:=B8 n.natAbs
   cases hl:Lib.decDigits n.natAbs with
   | nil=>exact B5 _ hl
   | cons c r =>
     rw[hl]at hp hd;simp at hp;have:=(hd c (by simp)).1;rw[←hp]at this;revert this;decide
theorem Kt (n:Int) (h0:-9223372036854775808≤n) (h1:n≤9223372036854775807) (w:World) (hE:Env w) :
 Calls Tryz.prog 141 #[.int .i64 n] w fun e w'=>e=.returned (.string (T (some n.natAbs)))∧Below w.heap.size w w':=by
 have hi:=Pk n h0 h1 w hE.tab;have ht:=fun W=>Tryz.strings_TrimPrefix ⟨(Lib.itoa n).toArray⟩ ⟨#[45]⟩ W
 have e:(⟨(Lib.trimPrefix (⟨(Lib.itoa n).toArray⟩:ByteArray).data.toList (⟨#[45]⟩:ByteArray).data.toList).toArray⟩:ByteArray)=T (some n.natAbs):=by
  show (⟨(Lib.trimPrefix (Lib.itoa n) [45]).toArray⟩:ByteArray)=_
  rw[LD];rfl
 rw[e]at ht;clear e;go_enter Tryz.func141,Tryz.ntmps141
 go_wp2_with fail
 refine hi.mono ?_;rintro e w1 ⟨rfl,hb1⟩;replace hb1:=zh hb1
 go_wp2_with fail
 refine(ht _).mono ?_;rintro e w2 ⟨rfl,hw2⟩;subst hw2;go_wp2;go_ret;exact⟨rfl,hb1.out⟩
theorem AK (w:World) (o:Obj):Below w.heap.size w (w.alloc o):=(Below.refl _ w).alloc (Nat.le_refl _) _
theorem Gz {n:Int} (h0:-9223372036854775808≤n) (h1:n≤9223372036854775807):n.natAbs<L1:=by
 have h:10^20≤L1:=Nat.pow_le_pow_right (by omega) (by rw[DB];omega);omega
theorem UV (m n:Int) (hm0:-9223372036854775808≤m) (hm1:m≤9223372036854775807) (hn0:-9223372036854775808≤n) (hn1:n≤9223372036854775807) (h0:n≠0) (r:Bool) (x y:ByteArray) (w:World) (hE:Env w)
 (hl:∀W,Env W→Calls Tryz.prog 115 #[.bool (!(decide (m<0)==decide (n<0))),.string (T (some m.natAbs)),.string (T (some n.natAbs))] W fun e w'=>e=.returned (.tuple #[.agg #[.bool r,.string x,.string y],.int .i64 0])∧Below W.heap.size W w') :
 Calls Tryz.prog 96 #[.int .i64 m,.int .i64 n] w fun e w'=>e=.returned (.tuple #[.agg #[.bool r,.string x,.string y],.int .i64 0])∧Below w.heap.size w w':=by
 have hz:(n==0)=false:=by rw[beq_eq_false_iff_ne];exact h0
 have c1:=fun W (h:Env W)=>Kt m hm0 hm1 W h;have c2:=fun W (h:Env W)=>Kt n hn0 hn1 W h;replace hE:=zh hE;replace hl:=zh hl;replace h0:=zh h0;clear hm0 hm1 hn0 hn1;go_enter Tryz.func96,Tryz.ntmps96
 go_wp2_with fail
 refine(c1 _ (hE.out.below (AK _ _))).mono ?_;rintro e w1 ⟨rfl,hb1⟩;have q1:=(B3.new w false ⟨#[]⟩ ⟨#[]⟩).below hb1;have hB1:=zh ((AK w (.cells #[.bool false,.string ⟨#[]⟩,.string ⟨#[]⟩] 40)).trans (hb1.mono (by simp)));clear hb1;replace q1:=zh q1
 go_wp2_with fail
 refine(c2 _ (hE.out.below hB1.out)).mono ?_;rintro e w2 ⟨rfl,hb2⟩;have q2:=q1.out.below hb2;have hB2:=zh (hB1.out.trans (hb2.mono hB1.out.size));clear hb2;replace q2:=zh q2
 go_wp2_with fail
 refine(hl.out _ (hE.out.below hB2.out)).mono ?_;rintro e w3 ⟨rfl,hb3⟩;have q3:=q2.out.below hb3;have hB3:=zh (hB2.out.trans (hb3.mono hB2.out.size));obtain⟨d1,d2,d3,d4,d5,d6⟩:=q3.facts;have hz3:=q3.lt;clear hb3;replace q3:=zh q3;go_wp2;refine bodyPost_ret (v:=.tuple #[.agg #[.bool r,.string x,.string y],.int .i64 0]) (by simp[results,Tryz.results96,go_sem,d1,d2,d3]) rfl ⟨rfl,?_⟩
 repeat refine Below.setCell ?_ (by simp only[];omega) _
 exact hB3.out
def ofQ (m n:Int):Rat:=mkRat (sg (!(decide (m<0)==decide (n<0))) m.natAbs) n.natAbs
theorem NZ (m n:Int) (hm0:-9223372036854775808≤m) (hm1:m≤9223372036854775807) (hn0:-9223372036854775808≤n) (hn1:n≤9223372036854775807) (h0:n≠0) (w:World) (hE:Env w) :
 Calls Tryz.prog 96 #[.int .i64 m,.int .i64 n] w fun e w'=>e=.returned (.tuple #[qv (ofQ m n),.int .i64 0])∧Below w.heap.size w w' :=
 UV m n hm0 hm1 hn0 hn1 h0 _ _ _ w hE fun W hW=>Df _ m.natAbs n.natAbs W hW (A8 (Gz hm0 hm1)) (A8 (Gz hn0 hn1)) (by omega)
end Nt
end
section
open Go.RowKit Go.Shelf
namespace Nt
def REnv (w:World):Prop:=Env w∧∃m:Int,w.cell? ⟨5,0,none⟩=some (.int .i64 m)
theorem REnv.lt {w:World} (h:REnv w):5<w.heap.size:=by
 obtain⟨_,m,hm⟩:=h;exact World.block_lt_of_cell? w _ hm
theorem REnv.below {w w':World} (h:REnv w) (hb:Below w.heap.size w w'):REnv w':=by
 have hl:=h.lt;obtain⟨h1,m,hm⟩:=h;exact⟨h1.below hb,m,(hb.cell (p:=⟨5,0,none⟩) hl).trans hm⟩
end Nt
end
section
open Go.ChangeShapes Go.WideShapes Go.ChangeAt Go.RowKit Go.Shelf Go.Joins
namespace Nt
theorem PW {k:IntKind} {n:Int} (h:(Lit.int k n).wf=true):k.min≤n∧n≤k.max:=by simpa [Lit.wf] using h
section
variable {H:Type} {enc:TypeId×Value→H} {w:World} {base:Nat} {spare:Nat→Bool} {held:Bool}
theorem Sp:Tryz.prog.cellsOf 40=3:=by kernel_rfl
end
end Nt
end
section
open Go.ChangeShapes Go.WideShapes Go.ChangeAt Go.RowKit Go.Shelf Go.Joins Go.Deep
namespace Ci
open Nt
def Du (x:Int):Prop:=-9223372036854775808≤x∧x≤9223372036854775807
def lkD {H:Type} (x:Lk):DataW H:=.agg [.lit (.int .i64 x.1),.lit (.int .i64 x.2.1),.agg [.lit (.bool x.2.2.1),.lit (.string x.2.2.2.1.data.toList),.lit (.string x.2.2.2.2.data.toList)]]
def PX {H:Type} (x:ByteArray):DataW H:=.lit (.string x.data.toList)
def Sq {H:Type} (x:Int):DataW H:=.lit (.int .i64 x)
def Ir {H α:Type} (f:α→DataW H) (l:List α) (d:DataW H):Prop:=(d=.nil∧l=[])∨∃rest,d=.slice (l.map f) rest
section
variable {H:Type} {enc:TypeId×Value→H} {w:World} {base:Nat} {held:Bool}
theorem Oa {b o k:Nat}:(⟨b,o,none⟩:Addr).add k=⟨b,o+k,none⟩:=by unfold Addr.add;split<;>simp_all
theorem i64_in {x:Int} (h:(Lit.int .i64 x).wf=true):Du x:=by
 have:=PW h;exact this
theorem Hm {fuel:Nat} {cs:List Value} {x:DataW H×List MemPlace} (h:DataW.trod enc Tryz.prog w base (fun _=>true) held fuel 26 cs=some x) :
 ∃(A:Option Addr) (cap:Nat) (l:List Int),cs=[.slice A l.length cap]∧Ir Sq l x.1∧InInt w A l∧∀y,y∈l→Du y:=by
 rcases open_slice1 Tryz.underlying26 (by kernel_rfl) h with⟨h1,h2⟩ | ⟨a,len,cap,m,n,V,D,Pl,hcs,hb,hl,hm,hmm,hx,hi⟩
 · exact⟨none,0,[],h1,.inl ⟨by rw[h2],rfl⟩,fun h=>absurd h (by simp),fun y hy=>by cases hy⟩
 · simp only[if_true]at hmm;subst hmm
   have each:∀i,i<m→∃y:Int,V i=.int .i64 y∧D i=Sq y∧Du y:=by
    intro i him;obtain⟨y,e1,e2,e3⟩:=DataW.trod_int Tryz.underlying3 (hi i him).2;exact⟨y,by simpa using e1,congrArg Prod.fst e2,i64_in e3⟩
   obtain⟨Y,hY⟩:=choose_lt each;refine⟨some a,m,(List.range len).map Y,by simpa using hcs,.inr ⟨_,by rw[hx,List.map_map];simp only[];congr 1;exact List.map_congr_left fun i hi2=>(hY i (by have:=List.mem_range.1 hi2;omega)).2.1⟩,fun h0=>?_,fun y hy=>?_⟩
   · simp only[List.length_map,List.length_range]at h0;have h00:=(hi 0 (by omega)).1;have hsp:=World.cell?_spot h00;obtain⟨b,o,s⟩:=a;have hs:s=none:=by simpa [Addr.add] using hsp
     subst hs;refine⟨b,o,rfl,?_,fun j hj=>?_⟩
     · have:=World.block_lt_of_cell? w _ h00
       simpa [Oa] using this
     · have hj':j<len:=by simpa using hj
       have hc:=(hi j (by omega)).1;rw[Oa,(hY j (by omega)).1]at hc;simp only[List.getElem_map,List.getElem_range];exact hc
   · obtain⟨i,hi2,rfl⟩:=List.mem_map.1 hy;exact(hY i (by have:=List.mem_range.1 hi2;omega)).2.2
theorem LE {fuel:Nat} {cs:List Value} {x:DataW H×List MemPlace} (h:DataW.trod enc Tryz.prog w base (fun _=>true) held fuel 22 cs=some x) :
 ∃(A:Option Addr) (cap:Nat) (l:List ByteArray),cs=[.slice A l.length cap]∧Ir PX l x.1∧InStr w A l:=by
 rcases open_slice1 Tryz.underlying22 (by kernel_rfl) h with⟨h1,h2⟩ | ⟨a,len,cap,m,n,V,D,Pl,hcs,hb,hl,hm,hmm,hx,hi⟩
 · exact⟨none,0,[],h1,.inl ⟨by rw[h2],rfl⟩,fun h=>absurd h (by simp)⟩
 · simp only[if_true]at hmm;subst hmm
   have each:∀i,i<m→∃y:ByteArray,V i=.string y∧D i=PX y:=by
    intro i him;obtain⟨y,e1,e2,_⟩:=DataW.trod_string Tryz.underlying9 (hi i him).2;exact⟨y,by simpa using e1,congrArg Prod.fst e2⟩
   obtain⟨Y,hY⟩:=choose_lt each;refine⟨some a,m,(List.range len).map Y,by simpa using hcs,.inr ⟨_,by rw[hx,List.map_map];simp only[];congr 1;exact List.map_congr_left fun i hi2=>(hY i (by have:=List.mem_range.1 hi2;omega)).2⟩,fun h0=>?_⟩;simp only[List.length_map,List.length_range]at h0;have h00:=(hi 0 (by omega)).1;have hsp:=World.cell?_spot h00;obtain⟨b,o,s⟩:=a;have hs:s=none:=by simpa [Addr.add] using hsp
   subst hs;refine⟨b,o,rfl,?_,fun j hj=>?_⟩
   · have:=World.block_lt_of_cell? w _ h00
     simpa [Oa] using this
   · have hj':j<len:=by simpa using hj
     have hc:=(hi j (by omega)).1;rw[Oa,(hY j (by omega)).1]at hc;simp only[List.getElem_map,List.getElem_range];exact hc
theorem PY:Tryz.prog.cellsOf 59=5:=by kernel_rfl
theorem I8 {fuel:Nat} {cs:List Value} {x:DataW H×List MemPlace} (h:DataW.trod enc Tryz.prog w base (fun _=>true) held fuel 23 cs=some x) :
 ∃(A:Option Addr) (cap:Nat) (l:List Lk),cs=[.slice A l.length cap]∧Ir lkD l x.1∧InLk w A l∧(∀y,y∈l→Du y.1∧Du y.2.1)∧l.length≤cap:=by
 rcases open_slice Tryz.underlying23 h with⟨h1,h2⟩ | ⟨a,len,cap,m,n,D,Pl,hcs,hb,hl,hm,hmm,hx,hi⟩
 · exact⟨none,0,[],h1,.inl ⟨by rw[h2],rfl⟩,fun h=>absurd h (by simp),(fun y hy=>by cases hy),Nat.le_refl _⟩
 · simp only[if_true]at hmm;subst hmm
   have each:∀i,i<m→∃y:Lk,D i=lkD y∧(w.cell? (a.add (i*5))=some (.int .i64 y.1)∧w.cell? (a.add (i*5+1))=some (.int .i64 y.2.1)∧w.cell? (a.add (i*5+2))=some (.bool y.2.2.1)∧w.cell? (a.add (i*5+3))=some (.string y.2.2.2.1)∧w.cell? (a.add (i*5+4))=some (.string y.2.2.2.2))∧Du y.1∧Du y.2.1:=by
    intro i him;obtain⟨cs',hc,ht'⟩:=hi i him;rw[PY]at hc;obtain⟨y0,y1,y2,n',hy,_,t0,t1,t2⟩:=trod_struct3 Tryz.underlying59 ht';obtain⟨z0,z1,z2,n'',hz,_,u0,u1,u2⟩:=trod_struct3 Tryz.underlying40 t2;obtain⟨_,hcl,hat⟩:=World.cells?_some hc
    match cs',hcl with
    | [c0,c1,c2,c3,c4],_ =>
      have g0:=hat 0 (by omega);have g1:=hat 1 (by omega);have g2:=hat 2 (by omega);have g3:=hat 3 (by omega);have g4:=hat 4 (by omega);rw[Go.Deep.add_add]at g0 g1 g2 g3 g4;obtain⟨a0,e0,k0,f0⟩:=DataW.trod_int Tryz.underlying3 t0;obtain⟨a1,e1,k1,f1⟩:=DataW.trod_int Tryz.underlying3 t1;obtain⟨a2,e2,k2⟩:=DataW.trod_bool Tryz.underlying4 u0;obtain⟨a3,e3,k3,_⟩:=DataW.trod_string Tryz.underlying9 u1;obtain⟨a4,e4,k4,_⟩:=DataW.trod_string Tryz.underlying9 u2;simp only[Prod.mk.injEq]at hy hz;have s1:Tryz.prog.cellsOf 3=1:=by kernel_rfl
      have s2:Tryz.prog.cellsOf 4=1:=by kernel_rfl
      have s3:Tryz.prog.cellsOf 9=1:=by kernel_rfl
      have s4:Tryz.prog.cellsOf 40=3:=by kernel_rfl
      have b0:c0=.int .i64 a0:=by simpa [s1,s2,s3,s4] using e0
      have b1:c1=.int .i64 a1:=by simpa [s1,s2,s3,s4] using e1
      have b2:c2=.bool a2:=by simpa [s1,s2,s3,s4] using e2
      have b3:c3=.string a3:=by simpa [s1,s2,s3,s4] using e3
      have b4:c4=.string a4:=by simpa [s1,s2,s3,s4] using e4
      subst b0 b1 b2 b3 b4;refine⟨(a0,a1,a2,a3,a4),?_,⟨by simpa using g0,by simpa using g1,by simpa using g2,by simpa using g3,by simpa using g4⟩,i64_in f0,i64_in f1⟩;rw[hy.1,k0,k1,hz,k2,k3,k4];rfl
   obtain⟨Y,hY⟩:=choose_lt each;refine⟨some a,m,(List.range len).map Y,by simpa using hcs,.inr ⟨_,by rw[hx,List.map_map];simp only[];congr 1;exact List.map_congr_left fun i hi2=>(hY i (by have:=List.mem_range.1 hi2;omega)).1⟩,fun h0=>?_,fun y hy=>?_,by rw[List.length_map,List.length_range];omega⟩
   · simp only[List.length_map,List.length_range]at h0;have h00:=(hY 0 (by omega)).2.1.1;have hsp:=World.cell?_spot h00;obtain⟨b,o,s⟩:=a;have hs:s=none:=by simpa [Addr.add] using hsp
     subst hs;refine⟨b,o,rfl,?_,fun j hj=>?_⟩
     · have:=World.block_lt_of_cell? w _ h00
       simpa [Oa] using this
     · have hj':j<len:=by simpa using hj
       have hc:=(hY j (by omega)).2.1;simp only[Oa]at hc;simp only[List.getElem_map,List.getElem_range];exact hc
   · obtain⟨i,hi2,rfl⟩:=List.mem_map.1 hy;exact(hY i (by have:=List.mem_range.1 hi2;omega)).2.2
theorem PZ {fuel:Nat} {cs:List Value} {x:DataW H×List MemPlace} (h:DataW.trod enc Tryz.prog w base (fun _=>true) held fuel 23 cs=some x) :
 ∃(A:Option Addr) (cap:Nat) (l:List Lk),cs=[.slice A l.length cap]∧Ir lkD l x.1∧InLk w A l∧∀y,y∈l→Du y.1∧Du y.2.1:=by
 obtain⟨A,cap,l,h1,h2,h3,h4,_⟩:=I8 h;exact⟨A,cap,l,h1,h2,h3,h4⟩
end
end Ci
end
section
open Go.RowKit Go.Shelf
namespace Ci
open Nt
theorem Qa (s:ByteArray) (w:World) (hs:s.size≤9223372036854775807) :
 Calls Tryz.prog 64 #[.string s] w fun e w'=>e=.returned (.bool (AW s))∧w'=w:=by
 have HB:=zh (fun(k:Nat) (h:k<s.size) (hb:¬C9 k s[k].toNat)=>NL (s:=s) h hb);have HA:=zh (NM (s:=s));go_enter Tryz.func64,Tryz.ntmps64;go_wp2
 go_loop [8] (fun i=>∃k:Nat,k≤s.size∧i=.int .i64 k∧Hid (∀i (h:i<s.size),i<k→C9 i s[i].toNat)) (fun i=>s.size-(intOf i).toNat)
 case atStart=>exact⟨0,Nat.zero_le _,rfl,fun i _ h=>absurd h (Nat.not_lt_zero _)⟩
 case round =>
  obtain⟨k,hk,rfl,hI⟩:=hrel
  by_cases hlt:k<s.size
  · have hc:s[k].toNat≤255:=by have:=s[k].toNat_lt;omega
    have i0:(0:Int)≤(k:Int):=by omega
    have i1:(k:Int)<(s.size:Int):=by omega
    have HN:Hid (C9 k s[k].toNat→∀i (h:i<s.size),i<k+1→C9 i s[i].toNat):=fun h i hi h2=>by
     by_cases e:i=k
     · subst e;exact h
     · exact hI.out i hi (by omega)
    have HB2:=zh (HB.out k hlt);clear hI
    by_cases e0:k=0
    · have b0:((k:Int)==0)=true:=by rw[beq_iff_eq];omega
      have b0n:((k:Int) != 0)=false:=by rw[bne_eq_false_iff_eq];omega
      have b3:(k==0)=true:=by rw[beq_iff_eq];omega
      replace e0:=zh e0;have hcl:(s[k].toNat≤47∧0≤s[k].toNat)∨(48≤s[k].toNat∧s[k].toNat≤57)∨(58≤s[k].toNat∧s[k].toNat≤64)∨(65≤s[k].toNat∧s[k].toNat≤90)∨(91≤s[k].toNat∧s[k].toNat≤94)∨(95≤s[k].toNat∧s[k].toNat≤95)∨(96≤s[k].toNat∧s[k].toNat≤96)∨(97≤s[k].toNat∧s[k].toNat≤122)∨(123≤s[k].toNat∧s[k].toNat≤255):=by omega
      rcases hcl with⟨g1,g2⟩ | ⟨g1,g2⟩ | ⟨g1,g2⟩ | ⟨g1,g2⟩ | ⟨g1,g2⟩ | ⟨g1,g2⟩ | ⟨g1,g2⟩ | ⟨g1,g2⟩ | ⟨g1,g2⟩
      · have b1:((s[k].toNat:Int) != 95)=true:=by rw[bne_iff_ne];omega
        have b2:((s[k].toNat:Int)==95)=false:=by rw[beq_eq_false_iff_ne];omega
        have HR:Hid (AW s=false):=HB2.out (by have:=e0.out;unfold C9;omega);clear HN HB2;go_wp2;go_ret;exact⟨Ai HR.out.symm,rfl⟩
      · have b1:((s[k].toNat:Int) != 95)=true:=by rw[bne_iff_ne];omega
        have b2:((s[k].toNat:Int)==95)=false:=by rw[beq_eq_false_iff_ne];omega
        have HR:Hid (AW s=false):=HB2.out (by have:=e0.out;unfold C9;omega);clear HN HB2;go_wp2;go_ret;exact⟨Ai HR.out.symm,rfl⟩
      · have b1:((s[k].toNat:Int) != 95)=true:=by rw[bne_iff_ne];omega
        have b2:((s[k].toNat:Int)==95)=false:=by rw[beq_eq_false_iff_ne];omega
        have HR:Hid (AW s=false):=HB2.out (by have:=e0.out;unfold C9;omega);clear HN HB2;go_wp2;go_ret;exact⟨Ai HR.out.symm,rfl⟩
      · have b1:((s[k].toNat:Int) != 95)=true:=by rw[bne_iff_ne];omega
        have b2:((s[k].toNat:Int)==95)=false:=by rw[beq_eq_false_iff_ne];omega
        have HR:=zh (HN.out (by have:=e0.out;unfold C9;omega));clear HN HB2;go_wp2;go_round
        case rel=>exact⟨k+1,by omega,by go_num,HR⟩
        case measure=>simp[intOf];omega
      · have b1:((s[k].toNat:Int) != 95)=true:=by rw[bne_iff_ne];omega
        have b2:((s[k].toNat:Int)==95)=false:=by rw[beq_eq_false_iff_ne];omega
        have c1:decide ((s[k].toNat:Int)≤90)=false:=by rw[decide_eq_false_iff_not];omega
        have d1:decide (s[k].toNat≤90)=false:=by rw[decide_eq_false_iff_not];omega
        have n1:¬((s[k].toNat:Int)≤90):=by omega
        have HR:Hid (AW s=false):=HB2.out (by have:=e0.out;unfold C9;omega);clear HN HB2;go_wp2;go_ret;exact⟨Ai HR.out.symm,rfl⟩
      · have b1:((s[k].toNat:Int) != 95)=false:=by rw[bne_eq_false_iff_eq];omega
        have b2:((s[k].toNat:Int)==95)=true:=by rw[beq_iff_eq];omega
        have c1:decide ((s[k].toNat:Int)≤90)=false:=by rw[decide_eq_false_iff_not];omega
        have d1:decide (s[k].toNat≤90)=false:=by rw[decide_eq_false_iff_not];omega
        have n1:¬((s[k].toNat:Int)≤90):=by omega
        have HR:Hid (AW s=false):=HB2.out (by have:=e0.out;unfold C9;omega);clear HN HB2;go_wp2;go_ret;exact⟨Ai HR.out.symm,rfl⟩
      · have b1:((s[k].toNat:Int) != 95)=true:=by rw[bne_iff_ne];omega
        have b2:((s[k].toNat:Int)==95)=false:=by rw[beq_eq_false_iff_ne];omega
        have c1:decide ((s[k].toNat:Int)≤90)=false:=by rw[decide_eq_false_iff_not];omega
        have d1:decide (s[k].toNat≤90)=false:=by rw[decide_eq_false_iff_not];omega
        have n1:¬((s[k].toNat:Int)≤90):=by omega
        have HR:Hid (AW s=false):=HB2.out (by have:=e0.out;unfold C9;omega);clear HN HB2;go_wp2;go_ret;exact⟨Ai HR.out.symm,rfl⟩
      · have b1:((s[k].toNat:Int) != 95)=true:=by rw[bne_iff_ne];omega
        have b2:((s[k].toNat:Int)==95)=false:=by rw[beq_eq_false_iff_ne];omega
        have c1:decide ((s[k].toNat:Int)≤90)=false:=by rw[decide_eq_false_iff_not];omega
        have d1:decide (s[k].toNat≤90)=false:=by rw[decide_eq_false_iff_not];omega
        have n1:¬((s[k].toNat:Int)≤90):=by omega
        have HR:=zh (HN.out (by have:=e0.out;unfold C9;omega));clear HN HB2;go_wp2;go_round
        case rel=>exact⟨k+1,by omega,by go_num,HR⟩
        case measure=>simp[intOf];omega
      · have b1:((s[k].toNat:Int) != 95)=true:=by rw[bne_iff_ne];omega
        have b2:((s[k].toNat:Int)==95)=false:=by rw[beq_eq_false_iff_ne];omega
        have c0:decide ((s[k].toNat:Int)≤122)=false:=by rw[decide_eq_false_iff_not];omega
        have d0:decide (s[k].toNat≤122)=false:=by rw[decide_eq_false_iff_not];omega
        have n0:¬((s[k].toNat:Int)≤122):=by omega
        have c1:decide ((s[k].toNat:Int)≤90)=false:=by rw[decide_eq_false_iff_not];omega
        have d1:decide (s[k].toNat≤90)=false:=by rw[decide_eq_false_iff_not];omega
        have n1:¬((s[k].toNat:Int)≤90):=by omega
        have HR:Hid (AW s=false):=HB2.out (by have:=e0.out;unfold C9;omega);clear HN HB2;go_wp2;go_ret;exact⟨Ai HR.out.symm,rfl⟩
    · have b0:((k:Int)==0)=false:=by rw[beq_eq_false_iff_ne];omega
      have b0n:((k:Int) != 0)=true:=by rw[bne_iff_ne];omega
      have b3:(k==0)=false:=by rw[beq_eq_false_iff_ne];omega
      have hcl:(s[k].toNat≤47∧0≤s[k].toNat)∨(48≤s[k].toNat∧s[k].toNat≤57)∨(58≤s[k].toNat∧s[k].toNat≤64)∨(65≤s[k].toNat∧s[k].toNat≤90)∨(91≤s[k].toNat∧s[k].toNat≤94)∨(95≤s[k].toNat∧s[k].toNat≤95)∨(96≤s[k].toNat∧s[k].toNat≤96)∨(97≤s[k].toNat∧s[k].toNat≤122)∨(123≤s[k].toNat∧s[k].toNat≤255):=by omega
      rcases hcl with⟨g1,g2⟩ | ⟨g1,g2⟩ | ⟨g1,g2⟩ | ⟨g1,g2⟩ | ⟨g1,g2⟩ | ⟨g1,g2⟩ | ⟨g1,g2⟩ | ⟨g1,g2⟩ | ⟨g1,g2⟩
      · have b1:((s[k].toNat:Int) != 95)=true:=by rw[bne_iff_ne];omega
        have b2:((s[k].toNat:Int)==95)=false:=by rw[beq_eq_false_iff_ne];omega
        have HR:Hid (AW s=false):=HB2.out (by unfold C9;omega);clear HN HB2;go_wp2;go_ret;exact⟨Ai HR.out.symm,rfl⟩
      · have b1:((s[k].toNat:Int) != 95)=true:=by rw[bne_iff_ne];omega
        have b2:((s[k].toNat:Int)==95)=false:=by rw[beq_eq_false_iff_ne];omega
        have HR:=zh (HN.out (by unfold C9;omega));clear HN HB2;go_wp2;go_round
        case rel=>exact⟨k+1,by omega,by go_num,HR⟩
        case measure=>simp[intOf];omega
      · have b1:((s[k].toNat:Int) != 95)=true:=by rw[bne_iff_ne];omega
        have b2:((s[k].toNat:Int)==95)=false:=by rw[beq_eq_false_iff_ne];omega
        have HR:Hid (AW s=false):=HB2.out (by unfold C9;omega);clear HN HB2;go_wp2;go_ret;exact⟨Ai HR.out.symm,rfl⟩
      · have b1:((s[k].toNat:Int) != 95)=true:=by rw[bne_iff_ne];omega
        have b2:((s[k].toNat:Int)==95)=false:=by rw[beq_eq_false_iff_ne];omega
        have HR:=zh (HN.out (by unfold C9;omega));clear HN HB2;go_wp2;go_round
        case rel=>exact⟨k+1,by omega,by go_num,HR⟩
        case measure=>simp[intOf];omega
      · have b1:((s[k].toNat:Int) != 95)=true:=by rw[bne_iff_ne];omega
        have b2:((s[k].toNat:Int)==95)=false:=by rw[beq_eq_false_iff_ne];omega
        have c1:decide ((s[k].toNat:Int)≤90)=false:=by rw[decide_eq_false_iff_not];omega
        have d1:decide (s[k].toNat≤90)=false:=by rw[decide_eq_false_iff_not];omega
        have n1:¬((s[k].toNat:Int)≤90):=by omega
        have HR:Hid (AW s=false):=HB2.out (by unfold C9;omega);clear HN HB2;go_wp2;go_ret;exact⟨Ai HR.out.symm,rfl⟩
      · have b1:((s[k].toNat:Int) != 95)=false:=by rw[bne_eq_false_iff_eq];omega
        have b2:((s[k].toNat:Int)==95)=true:=by rw[beq_iff_eq];omega
        have c1:decide ((s[k].toNat:Int)≤90)=false:=by rw[decide_eq_false_iff_not];omega
        have d1:decide (s[k].toNat≤90)=false:=by rw[decide_eq_false_iff_not];omega
        have n1:¬((s[k].toNat:Int)≤90):=by omega
        have HR:=zh (HN.out (by unfold C9;omega));clear HN HB2;go_wp2;go_round
        case rel=>exact⟨k+1,by omega,by go_num,HR⟩
        case measure=>simp[intOf];omega
      · have b1:((s[k].toNat:Int) != 95)=true:=by rw[bne_iff_ne];omega
        have b2:((s[k].toNat:Int)==95)=false:=by rw[beq_eq_false_iff_ne];omega
        have c1:decide ((s[k].toNat:Int)≤90)=false:=by rw[decide_eq_false_iff_not];omega
        have d1:decide (s[k].toNat≤90)=false:=by rw[decide_eq_false_iff_not];omega
        have n1:¬((s[k].toNat:Int)≤90):=by omega
        have HR:Hid (AW s=false):=HB2.out (by unfold C9;omega);clear HN HB2;go_wp2;go_ret;exact⟨Ai HR.out.symm,rfl⟩
      · have b1:((s[k].toNat:Int) != 95)=true:=by rw[bne_iff_ne];omega
        have b2:((s[k].toNat:Int)==95)=false:=by rw[beq_eq_false_iff_ne];omega
        have c1:decide ((s[k].toNat:Int)≤90)=false:=by rw[decide_eq_false_iff_not];omega
        have d1:decide (s[k].toNat≤90)=false:=by rw[decide_eq_false_iff_not];omega
        have n1:¬((s[k].toNat:Int)≤90):=by omega
        have HR:=zh (HN.out (by unfold C9;omega));clear HN HB2;go_wp2;go_round
        case rel=>exact⟨k+1,by omega,by go_num,HR⟩
        case measure=>simp[intOf];omega
      · have b1:((s[k].toNat:Int) != 95)=true:=by rw[bne_iff_ne];omega
        have b2:((s[k].toNat:Int)==95)=false:=by rw[beq_eq_false_iff_ne];omega
        have c0:decide ((s[k].toNat:Int)≤122)=false:=by rw[decide_eq_false_iff_not];omega
        have d0:decide (s[k].toNat≤122)=false:=by rw[decide_eq_false_iff_not];omega
        have n0:¬((s[k].toNat:Int)≤122):=by omega
        have c1:decide ((s[k].toNat:Int)≤90)=false:=by rw[decide_eq_false_iff_not];omega
        have d1:decide (s[k].toNat≤90)=false:=by rw[decide_eq_false_iff_not];omega
        have n1:¬((s[k].toNat:Int)≤90):=by omega
        have HR:Hid (AW s=false):=HB2.out (by unfold C9;omega);clear HN HB2;go_wp2;go_ret;exact⟨Ai HR.out.symm,rfl⟩
  · obtain rfl:k=s.size:=by omega
    have HE:Hid (AW s=(decide (0<s.size)&&decide (s.size≤24))):=HA.out fun i h=>hI.out i h h
    have q0:s.toList.isEmpty=decide (s.size=0):=by
     rw[Lib.toList_data,Lib.size_eq]
     cases s.data.toList<;>simp
    clear hI
    by_cases h0:s.size=0
    · have q1:s.toList=[]:=by simpa [h0] using q0
      have q2:(!s.toList.isEmpty)=false:=by rw[q0,decide_eq_true h0];rfl
      clear q0;go_wp2;go_ret;exact⟨Ai (by rw[HE.out,decide_eq_false (by omega)];rfl),rfl⟩
    · have q2:(!s.toList.isEmpty)=true:=by rw[q0,decide_eq_false h0];rfl
      have q1:¬s.toList=[]:=fun e=>by rw[e]at q0;rw[decide_eq_false h0]at q0;cases q0
      clear q0
      by_cases h24:s.size≤24
      · go_wp2;go_ret;exact⟨Ai (by rw[HE.out,decide_eq_true (by omega:0<s.size),decide_eq_true h24,decide_eq_true (by omega:(s.size:Int)≤24)];rfl),rfl⟩
      · go_wp2;go_ret;exact⟨Ai (by rw[HE.out,decide_eq_true (by omega:0<s.size),decide_eq_false h24,decide_eq_false (by omega:¬(s.size:Int)≤24)];rfl),rfl⟩
theorem LF (s:ByteArray) (w:World) (hs:s.size≤9223372036854775807) :
 Calls Tryz.prog 64 #[.string s] w fun e w'=>e=.returned (.bool (AW s))∧Below w.heap.size w w' :=
 (Qa s w hs).mono fun e w' h=>by
   obtain⟨rfl,rfl⟩:=h;exact⟨rfl,Below.refl _ _⟩
end Ci
end
section
open Go.RowKit Go.Shelf
namespace Ci
open Nt
theorem U8 (b:Nat):(6000:Int)%(b:Int)=((6000%b:Nat):Int):=(Int.natCast_emod 6000 b).symm
theorem TO {s:ByteArray} (h:isN s=true) (h4:s.size≤4):val s<10000:=by
 have h1:=GN (Hh h);have h2:s.data.toList.length≤4:=by have:=Lib.size_eq s;omega
 have h3:10^s.data.toList.length≤10^4:=Nat.pow_le_pow_right (by omega) h2
 show AH s.data.toList<10000
 omega
theorem Ty (s:ByteArray) (h:isN s=true) (h4:s.size≤4) (W:World):Calls Tryz.prog 116 #[.string s] W fun e w'=>e=.returned (.tuple #[.int .i64 (val s:Int),.nilIface])∧Below W.heap.size W w':=by
 have ha:=P8 (val s);rw[MQ h]at ha;have hv:val s<10000:=TO h h4;rw[if_pos (by omega)]at ha;refine(Tryz.strconv_Atoi_ok s (by omega) _ ha W).mono ?_;rintro e w' ⟨rfl,rfl | ⟨t,rfl⟩⟩
 · exact⟨rfl,Below.refl _ _⟩
 · exact⟨rfl,Go.Joins.below_bytesWorld _ _ _ _ (Nat.le_refl _)⟩
theorem Ku {g:Bool} {n d:ByteArray} (h:At g n d=true):isN n=true∧isN d=true∧val d≠0:=by
 unfold At at h;simp only[Bool.and_eq_true]at h;obtain⟨h1,h2,h3,_⟩:=h;exact⟨h1,h2,by simpa using h3⟩
theorem I9 {g:Bool} {n d:ByteArray} (h:At g n d=false∨g=true∨4<n.size∨4<d.size):unitsN (g,n,d)=0:=if_pos h
theorem LG {g:Bool} {n d:ByteArray} (h1:At g n d=true) (h2:g=false) (h3:n.size≤4) (h4:d.size≤4):unitsN (g,n,d)=if val d<val n∨6000%val d≠0 then 0 else val n*(6000/val d):=by
 unfold unitsN;rw[if_neg];rintro(h | h | h | h)
 · rw[h1]at h;cases h
 · rw[h2]at h;cases h
 · simp only[]at h;omega
 · simp only[]at h;omega
theorem Ob (g : Bool) (n d : ByteArray) (w : World) (hE : Env w) (hn:n.size≤140737488355328) (hd:d.size≤140737488355328) :
 Calls Tryz.prog 66 #[.agg #[.bool g,.string n,.string d]] w fun e w'=>e=.returned (.int .i64 (unitsN (g,n,d):Int))∧Below w.heap.size w w':=by
 have hv:Hid (∀W,Env W→Calls Tryz.prog 83 #[.agg #[.bool g,.string n,.string d]] W fun e w'=>e=.returned (.bool (At g n d))∧Below W.heap.size W w'):=fun W hW=>AE g n d W hW hn hd;replace hE:=zh hE;have hB0:Hid (Below w.heap.size w (w.alloc (.cells #[.bool g,.string n,.string d] 40))):=(Below.refl _ w).alloc (Nat.le_refl _) _;have hF0:Hid (B3 (w.alloc (.cells #[.bool g,.string n,.string d] 40)) w.heap.size g n d):=B3.new w g n d
 cases h1:At g n d with
 | false =>
   have HG:=zh (I9 (g:=g) (n:=n) (d:=d) (.inl h1));rw[h1]at hv;clear h1;go_enter Tryz.func66,Tryz.ntmps66
   go_wp2_with fail
   refine(hv.out _ (hE.out.below hB0.out)).mono ?_;rintro e w1 ⟨rfl,hb⟩;have hB1:=zh (hB0.out.trans (hb.mono hB0.out.size));clear hb;go_wp2;go_ret;exact⟨by rw[HG.out];rfl,hB1.out⟩
 | true =>
   rw[h1]at hv;obtain⟨q1,q2,q3⟩:=Ku h1
   by_cases hbad:g=true∨4<n.size∨4<d.size
   · have HG:=zh (I9 (g:=g) (n:=n) (d:=d) (.inr hbad));clear h1 q1 q2 q3;go_enter Tryz.func66,Tryz.ntmps66
     go_wp2_with fail
     refine(hv.out _ (hE.out.below hB0.out)).mono ?_;rintro e w1 ⟨rfl,hb⟩;have hB1:=zh (hB0.out.trans (hb.mono hB0.out.size));obtain⟨f1,f2,f3,_,_,_⟩:=(hF0.out.below hb).facts;have f4:=(hF0.out.below hb).lt;clear hb
     have hcl:g=true∨(g=false∧4<n.size)∨(g=false∧n.size≤4∧4<d.size):=by
      cases g
      · rcases hbad with h | h | h
        · cases h
        · exact .inr (.inl ⟨rfl,h⟩)
        · by_cases c:4<n.size
          · exact .inr (.inl ⟨rfl,c⟩)
          · exact .inr (.inr ⟨rfl,by omega,h⟩)
      · exact .inl rfl
     clear hbad
     rcases hcl with rfl | ⟨rfl,z1⟩ | ⟨rfl,z1,z2⟩
     all_goals (
      go_wp2;go_ret;exact⟨by rw[HG.out];rfl,hB1.out⟩)
   · have z0:g=false:=by
      cases g
      · rfl
      · exact absurd (.inl rfl) hbad
     have z1:n.size≤4:=by omega
     have z2:d.size≤4:=by omega
     have HG:=LG h1 z0 z1 z2;have ka:Hid (∀W,Calls Tryz.prog 116 #[.string n] W fun e w'=>e=.returned (.tuple #[.int .i64 (val n:Int),.nilIface])∧Below W.heap.size W w'):=fun W=>Ty n q1 z1 W;have kb:Hid (∀W,Calls Tryz.prog 116 #[.string d] W fun e w'=>e=.returned (.tuple #[.int .i64 (val d:Int),.nilIface])∧Below W.heap.size W w'):=fun W=>Ty d q2 z2 W;have v1:=TO q1 z1;have v2:=TO q2 z2;subst z0;clear h1 hbad q1 q2;generalize hA:val n=a at *;generalize hB:val d=b at *;clear hA hB;have v3:1≤b:=by omega
     have hcl:(b<a)∨(a≤b∧6000%b≠0)∨(a≤b∧6000%b=0):=by omega
     rcases hcl with c1 | ⟨c1,c2⟩ | ⟨c1,c2⟩
     · rw[if_pos (.inl c1)]at HG;replace HG:=zh HG;go_enter Tryz.func66,Tryz.ntmps66
       go_wp2_with fail
       refine(hv.out _ (hE.out.below hB0.out)).mono ?_;rintro e w1 ⟨rfl,hb⟩;have hB1:=zh (hB0.out.trans (hb.mono hB0.out.size));have hF1:=zh (hF0.out.below hb);obtain⟨f1,f2,f3,_,_,_⟩:=hF1.out.facts;have f4:=hF1.out.lt;clear hb
       go_wp2_with fail
       refine(ka.out _).mono ?_;rintro e w2 ⟨rfl,hb⟩;have hB2:=zh (hB1.out.trans (hb.mono hB1.out.size));have hF2:=zh (hF1.out.below hb);clear hb f1 f2 f3 f4;obtain⟨f1,f2,f3,_,_,_⟩:=hF2.out.facts;have f4:=hF2.out.lt
       go_wp2_with fail
       refine(kb.out _).mono ?_;rintro e w3 ⟨rfl,hb⟩;have hB3:=zh (hB2.out.trans (hb.mono hB2.out.size));clear hb f1 f2 f3 f4;go_wp2;go_ret;exact⟨by rw[HG.out];rfl,hB3.out⟩
     · rw[if_pos (.inr c2)]at HG;replace HG:=zh HG;have t1:((6000:Int)%(b:Int) != 0)=true:=by rw[bne_iff_ne,U8];omega
       go_enter Tryz.func66,Tryz.ntmps66
       go_wp2_with fail
       refine(hv.out _ (hE.out.below hB0.out)).mono ?_;rintro e w1 ⟨rfl,hb⟩;have hB1:=zh (hB0.out.trans (hb.mono hB0.out.size));have hF1:=zh (hF0.out.below hb);obtain⟨f1,f2,f3,_,_,_⟩:=hF1.out.facts;have f4:=hF1.out.lt;clear hb
       go_wp2_with fail
       refine(ka.out _).mono ?_;rintro e w2 ⟨rfl,hb⟩;have hB2:=zh (hB1.out.trans (hb.mono hB1.out.size));have hF2:=zh (hF1.out.below hb);clear hb f1 f2 f3 f4;obtain⟨f1,f2,f3,_,_,_⟩:=hF2.out.facts;have f4:=hF2.out.lt
       go_wp2_with fail
       refine(kb.out _).mono ?_;rintro e w3 ⟨rfl,hb⟩;have hB3:=zh (hB2.out.trans (hb.mono hB2.out.size));clear hb f1 f2 f3 f4;go_wp2;go_ret;exact⟨by rw[HG.out];rfl,hB3.out⟩
     · rw[if_neg (by omega)]at HG;replace HG:=zh HG;have t1:((6000:Int)%(b:Int) != 0)=false:=by rw[bne_eq_false_iff_eq,U8];omega
       have t2:a*(6000/b)≤6000:=Nat.le_trans (Nat.mul_le_mul_right _ c1) (Nat.mul_div_le _ _);have t3:(0:Int)≤(a:Int)*((6000:Int)/(b:Int)):=by have:=Int.natCast_nonneg (a*(6000/b));rw[Int.natCast_mul]at this;exact this
       have t4 : (a : Int) * ((6000 : Int) / (b : Int)) ≤ 6000 := by have h:((a*(6000/b):Nat):Int)≤6000:=by omega
                                                                     rw[Int.natCast_mul]at h;exact h
       have HP:Hid (((a*(6000/b):Nat):Int)=(a:Int)*((6000:Int)/(b:Int))):=by rw[Int.natCast_mul];rfl
       clear t2;go_enter Tryz.func66,Tryz.ntmps66
       go_wp2_with fail
       refine(hv.out _ (hE.out.below hB0.out)).mono ?_;rintro e w1 ⟨rfl,hb⟩;have hB1:=zh (hB0.out.trans (hb.mono hB0.out.size));have hF1:=zh (hF0.out.below hb);obtain⟨f1,f2,f3,_,_,_⟩:=hF1.out.facts;have f4:=hF1.out.lt;clear hb
       go_wp2_with fail
       refine(ka.out _).mono ?_;rintro e w2 ⟨rfl,hb⟩;have hB2:=zh (hB1.out.trans (hb.mono hB1.out.size));have hF2:=zh (hF1.out.below hb);clear hb f1 f2 f3 f4;obtain⟨f1,f2,f3,_,_,_⟩:=hF2.out.facts;have f4:=hF2.out.lt
       go_wp2_with fail
       refine(kb.out _).mono ?_;rintro e w3 ⟨rfl,hb⟩;have hB3:=zh (hB2.out.trans (hb.mono hB2.out.size));clear hb f1 f2 f3 f4;go_wp2;go_ret;exact⟨by rw[HG.out,HP.out];rfl,hB3.out⟩
end Ci
end
section
open Go.Maps (Keyed)
open Go.RowKit
namespace Ci
def Qb (v:Value):Option (DataW Value×List MemPlace):=some (.held v,[])
def Oc {α:Type} [DecidableEq α] (f:α→Option Value) (x:α) (v:Option Value):α→Option Value:=fun y=>if y=x then v else f y
theorem BQ {α:Type} [DecidableEq α] (f:α→Option Value) (x:α) (v:Option Value):Oc f x v x=v:=if_pos rfl
theorem BF {α:Type} [DecidableEq α] {f:α→Option Value} {x y:α} {v:Option Value} (h:y≠x):Oc f x v y=f y:=if_neg h
def MapK {α:Type} (P:Program) (k:TypeId) (κ:α→Lit) (w:World) (b c:Nat) (f:α→Option Value):Prop :=
 ∃D:DataW Value,w.ownsMap P k Qb b c D∧Maps.size D=c∧∀x,Maps.has D (κ x)=(f x).isSome∧∀z,D.atKey (κ x) z=match f x with | some v=>.held v | none=>z
section
variable {α:Type} {P:Program} {k t e:TypeId} {κ:α→Lit} {w w':World} {b c:Nat} {f:α→Option Value}
theorem IA {R:Value→Option (DataW Value×List MemPlace)} {n:Nat} {D:DataW Value} (h:w.ownsMap P k R b n D):w.ownsMap P k R b (Maps.size D) D:=by
 obtain⟨es,clock,hb,F,_,rfl⟩:=h;refine⟨es,clock,hb,F,?_,rfl⟩;simp[Maps.size,length_sorted]
theorem MapK.made (w:World) (P:Program) (k:TypeId) (κ:α→Lit):MapK P k κ (w.alloc (.map #[] 0)) w.heap.size 0 fun _=>none :=
 ⟨.map [],World.ownsMap_made w P k Qb,rfl,fun _=>⟨rfl,fun _=>rfl⟩⟩
theorem MapK.lt (h:MapK P k κ w b c f):b<w.heap.size:=by obtain⟨D,h,_⟩:=h;exact h.lt
theorem MapK.kept {row:Option Nat} (h:MapK P k κ w b c f) (hg:w.grownBy w' row) (hne:some b≠row):MapK P k κ w' b c f:=by
 obtain⟨D,h,r⟩:=h;exact⟨D,h.kept hg hne,r⟩
theorem MapK.block (h:MapK P k κ w b c f) (hb:w'.heap[b]? = w.heap[b]?):MapK P k κ w' b c f:=by
 obtain⟨D,⟨es,clock,h1,h2⟩,r⟩:=h;exact⟨D,⟨es,clock,hb.trans h1,h2⟩,r⟩
theorem MapK.below (h:MapK P k κ w b c f) (hb:Below w.heap.size w w'):MapK P k κ w' b c f:=h.block (hb.block b h.lt)
theorem MapK.alloc (h:MapK P k κ w b c f) (o:Obj):MapK P k κ (w.alloc o) b c f:=by
 obtain⟨D,h,r⟩:=h;exact⟨D,h.alloc o,r⟩
theorem MapK.drew (h:MapK P k κ w b c f):MapK P k κ w.drew b c f:=h
theorem MapK.set (h:MapK P k κ w b c f) {a:Addr} (ha:b≠a.block) (u:Value):MapK P k κ (w.setCell a u) b c f:=by
 obtain⟨D,h,r⟩:=h;exact⟨D,h.setCell ha u,r⟩
theorem MapK.congr {g:α→Option Value} (h:MapK P k κ w b c f) (e:∀x,f x=g x):MapK P k κ w b c g:=by rwa [←funext e]
theorem MapK.look (h:MapK P k κ w b c f) (K:Keyed P k) (ht:P.underlying t=some (.map k e)) {z:Value} (hz:(zeroValue e).run P w=.ok z w) {key:Value} {x:α} (hkey:keyOf P k key=some (κ x)) :
 (Instr.lookup t (.map (some b)) key false).run P w=.ok ((f x).getD z) w:=by
 obtain⟨D,h,_,hv⟩:=h;obtain⟨v,ps,hrun,hR⟩:=h.lookup K ht hz (zd:=.held z) (zp:=[]) rfl hkey;rw[hrun];rw[(hv x).2]at hR;simp only[Qb,Option.some.injEq,Prod.mk.injEq]at hR
 cases hf:f x with
 | none=>rw[hf]at hR;simp only[DataW.held.injEq]at hR;rw[hR.1];rfl
 | some u=>rw[hf]at hR;simp only[DataW.held.injEq]at hR;rw[hR.1];rfl
theorem MapK.look_ok (h:MapK P k κ w b c f) (K:Keyed P k) (ht:P.underlying t=some (.map k e)) {z:Value} (hz:(zeroValue e).run P w=.ok z w) {key:Value} {x:α} (hkey:keyOf P k key=some (κ x)) :
 (Instr.lookup t (.map (some b)) key true).run P w=.ok (.tuple #[(f x).getD z,.bool (f x).isSome]) w:=by
 obtain⟨D,h,_,hv⟩:=h;obtain⟨v,ps,hrun,hR⟩:=h.look_ok K ht hz (zd:=.held z) (zp:=[]) rfl hkey;rw[hrun,(hv x).1];rw[(hv x).2]at hR;simp only[Qb,Option.some.injEq,Prod.mk.injEq]at hR
 cases hf:f x with
 | none=>rw[hf]at hR;simp only[DataW.held.injEq]at hR;rw[hR.1];rfl
 | some u=>rw[hf]at hR;simp only[DataW.held.injEq]at hR;rw[hR.1];rfl
theorem MapK.put [DecidableEq α] (h:MapK P k κ w b c f) (hκ:∀x y,κ x=κ y→x=y) (K:Keyed P k) (ht:P.underlying t=some (.map k e)) (hn:c<maxLen) {key:Value} {x:α} (hkey:keyOf P k key=some (κ x)) (v:Value) :
 ∃w',(Instr.mapUpdate t (.map (some b)) key v).run P w=.ok () w'∧MapK P k κ w' b (if (f x).isSome then c else c+1) (Oc f x (some v))∧w.grownBy w' (some b):=by
 obtain⟨D,h,hs,hv⟩:=h;obtain⟨w',hrun,h2,hg⟩:=h.update K ht hn hkey (R:=Qb) (val:=v) rfl
 have hsz:Maps.size (D.put (κ x) (.held v))=if (f x).isSome then c else c+1:=by
  rw[Maps.size_put (h.tidy K),hs,(hv x).1]
 refine⟨w',hrun,⟨_,by have:=IA h2;rwa [hsz]at this,hsz,fun y=>?_⟩,hg⟩
 by_cases hy:y=x
 · subst hy;rw[BQ];exact⟨Maps.has_put_same h.isMap (K.key hkey) _,fun z=>Maps.atKey_put_same h.isMap (K.key hkey) _ z⟩
 · have hne:κ y≠κ x:=fun e=>hy (hκ _ _ e);rw[BF hy,Maps.has_put_other hne];refine⟨(hv y).1,fun z=>?_⟩;rw[Maps.atKey_put_other hne];exact(hv y).2 z
theorem MapK.del [DecidableEq α] (h:MapK P k κ w b c f) (hκ:∀x y,κ x=κ y→x=y) (K:Keyed P k) (ht:P.underlying t=some (.map k e)) {key:Value} {x:α} (hkey:keyOf P k key=some (κ x)) (ty:TypeId) :
 ∃w',(Builtin.delete_ #[t,k] ty #[.map (some b),key]).run P w=.ok (.tuple #[]) w'∧MapK P k κ w' b (if (f x).isSome then c-1 else c) (Oc f x none)∧w.grownBy w' (some b):=by
 obtain⟨D,h,hs,hv⟩:=h;obtain⟨w',hrun,h2,hg⟩:=h.drop K ht hkey ty
 have hsz:Maps.size (D.del (κ x))=if (f x).isSome then c-1 else c:=by
  have:=Maps.size_del (k:=κ x) (h.tidy K);rw[hs,(hv x).1]at this
  split<;>simp_all<;>omega
 refine⟨w',hrun,⟨_,by have:=IA h2;rwa [hsz]at this,hsz,fun y=>?_⟩,hg.grown⟩
 by_cases hy:y=x
 · subst hy;rw[BQ];exact⟨Maps.has_del_same,fun z=>Maps.atKey_del_same z⟩
 · have hne:κ y≠κ x:=fun e=>hy (hκ _ _ e);rw[BF hy,Maps.has_del_other hne];refine⟨(hv y).1,fun z=>?_⟩;rw[Maps.atKey_del_other hne];exact(hv y).2 z
theorem MapK.len (h:MapK P k κ w b c f) (ht:P.underlying t=some (.map k e)) (ty:TypeId):(Builtin.len_ #[t] ty #[.map (some b)]).run P w=.ok (.int .i64 c) w:=by
 obtain⟨D,h,hs,_⟩:=h;rw[h.len ht,hs]
end
def κi (a:Int):Lit:=.int .i64 a
theorem FX:∀x y,κi x=κi y→x=y:=fun x y h=>by injection h
theorem Ey {P:Program} {k:TypeId} (hk:P.underlying k=some (.int .i64)) {a:Int} (h1:-9223372036854775808≤a) (h2:a≤9223372036854775807):keyOf P k (.int .i64 a)=some (κi a):=Maps.keyOf_int_mk hk (WalkArith.wf_i64 ⟨h1,h2⟩)
end Ci
end
section
open Go.RowKit Go.Shelf
namespace Ci
open Nt
def Bt:Code→List Code
 | .loop c=>Bt c
 | .seq a b=>Bt a++Bt b
 | .block _ c=>Bt c
 | .scope c=>Bt c
 | .cond _ a b=>Bt a++Bt b
 | .region a b c=>[.region a b c]
 | _=>[]
noncomputable def U9 (j:Nat):Code:=((Tryz.f65.body.map Bt).bind fun l=>l[j]?).getD .skip
theorem UA {c0 c1 c2 c3 c4 c6 c7 c9 c11 c12 c13 c14 c15 c16 c17 c18 c19 c20 c21 c22 c23 c24 c25 c26 c27 c28 c29 c30 c31 c32 c52 c53 c54 c55 c56 c57 c58 c59 c60 c61 c62 c63 c64 c65 c66 c67 c68 c69 c70 c71 c72 c73 c74 c75 c76 c77 c78 c79 c80 c81 c82 c83 c84 c85 c86 c87 c88 c89 c90 c91 c92 c93 c94 c95 a10 a33 a34 a35 a36 a37 a38 a39 a40 a41 a42 a43 a44 a45 a46 a47 a48 a49 a50 a51:Value} {Q:Exit→Act→World→Prop} (kb lb:Nat) (co ho lc lh:Int) (r:Bool) (hr:r=decide (lc<co∨(lc=co∧lh<ho))) (w:World) (u2:w.cell? ⟨kb,0,none⟩=some (.int .i64 co)) (u3:w.cell? ⟨kb,1,none⟩=some (.int .i64 ho)) (u4:w.cell? ⟨lb,0,none⟩=some (.int .i64 lc)) (u5:w.cell? ⟨lb,1,none⟩=some (.int .i64 lh))
 (h:∀u33 u34 u35 u36 u37 u38 u39 u40 u41 u42 u43 u44 u45 u46 u47 u48 u49 u50 u51:Value,Q .normal ⟨#[c0,c1,c2,c3,c4,.pointer (some ⟨lb,0,none⟩),c6,c7,.pointer (some ⟨kb,0,none⟩),c9,.bool r,c11,c12,c13,c14,c15,c16,c17,c18,c19,c20,c21,c22,c23,c24,c25,c26,c27,c28,c29,c30,c31,c32,u33,u34,u35,u36,u37,u38,u39,u40,u41,u42,u43,u44,u45,u46,u47,u48,u49,u50,u51,c52,c53,c54,c55,c56,c57,c58,c59,c60,c61,c62,c63,c64,c65,c66,c67,c68,c69,c70,c71,c72,c73,c74,c75,c76,c77,c78,c79,c80,c81,c82,c83,c84,c85,c86,c87,c88,c89,c90,c91,c92,c93,c94,c95],[]⟩ w) :
 Code.wp Tryz.prog (U9 7) Q ⟨#[c0,c1,c2,c3,c4,.pointer (some ⟨lb,0,none⟩),c6,c7,.pointer (some ⟨kb,0,none⟩),c9,a10,c11,c12,c13,c14,c15,c16,c17,c18,c19,c20,c21,c22,c23,c24,c25,c26,c27,c28,c29,c30,c31,c32,a33,a34,a35,a36,a37,a38,a39,a40,a41,a42,a43,a44,a45,a46,a47,a48,a49,a50,a51,c52,c53,c54,c55,c56,c57,c58,c59,c60,c61,c62,c63,c64,c65,c66,c67,c68,c69,c70,c71,c72,c73,c74,c75,c76,c77,c78,c79,c80,c81,c82,c83,c84,c85,c86,c87,c88,c89,c90,c91,c92,c93,c94,c95],[]⟩ w:=by
 conv=>arg 2;whnf
 conv=>arg 4;zeta
 replace h:=zh h;have hcR:(lc<co)∨(co=lc∧lh<ho)∨(co<lc)∨(co=lc∧ho≤lh):=by omega
 rcases hcR with r1 | ⟨r1,r2⟩ | r1 | ⟨r1,r2⟩
 · have m1:(co==lc)=false:=by rw[beq_eq_false_iff_ne];omega
   obtain rfl:r=true:=by rw[hr,decide_eq_true (.inl r1)]
   clear hr;go_wp2;exact h.out ..
 · have m1:(co==lc)=true:=by rw[beq_iff_eq];exact r1
   have m2:co≤lc:=by omega
   obtain rfl:r=true:=by rw[hr,decide_eq_true (.inr ⟨r1.symm,r2⟩)]
   clear hr r1;go_wp2;exact h.out ..
 · have m1:(co==lc)=false:=by rw[beq_eq_false_iff_ne];omega
   obtain rfl:r=false:=by rw[hr,decide_eq_false (by omega)]
   have m3:decide (lc<co)=false:=decide_eq_false (by omega);clear hr;go_wp2;exact h.out ..
 · have m1:(co==lc)=true:=by rw[beq_iff_eq];exact r1
   have m2:co≤lc:=by omega
   obtain rfl:r=false:=by rw[hr,decide_eq_false (by omega)]
   have m3:decide (lc<co)=false:=decide_eq_false (by omega);have m4:decide (lh<ho)=false:=decide_eq_false (by omega);clear hr r1;go_wp2;exact h.out ..
theorem UB {c0 c2 c3 c5 c6 c11 c12 c13 c14 c15 c16 c17 c18 c19 c20 c21 c22 c23 c24 c25 c26 c27 c28 c29 c30 c31 c32 c33 c34 c35 c36 c37 c38 c39 c40 c41 c42 c43 c44 c45 c46 c47 c48 c49 c50 c51 c94 c95 a52 a53 a54 a55 a56 a57 a58 a59 a60 a61 a62 a63 a64 a65 a66 a67 a68 a69 a70 a71 a72 a73 a74 a75 a76 a77 a78 a79 a80 a81 a82 a83 a84 a85 a86 a87 a88 a89 a90 a91 a92 a93:Value} {Q:Exit→Act→World→Prop} (xb kb nb mb n p s:Nat) (co ho:Int) (r q:Bool) (hq:q=decide (co<0∨(n:Int)≤co∨ho<0∨(n:Int)≤ho∨co=ho∨r=false∨p=0∨6000<s)) (w:World) (hp6:p≤6000) (hs:s≤12000) (hn:n≤140737488355328) (u1:w.cell? ⟨xb,0,none⟩=some (.int .i64 co)) (u2:w.cell? ⟨kb,0,none⟩=some (.int .i64 co)) (u3:w.cell? ⟨kb,1,none⟩=some (.int .i64 ho)) (u4:w.cell? ⟨nb,0,none⟩=some (.int .i64 (n:Int))) (hk:(Instr.lookup 88 (.map (some mb)) (.int .i64 co) false).run Tryz.prog w=.ok (.int .i64 (s:Int)) w)
 (h:∀u52 u53 u54 u55 u56 u57 u58 u59 u60 u61 u62 u63 u64 u65 u66 u67 u68 u69 u70 u71 u72 u73 u74 u75 u76 u77 u78 u79 u80 u81 u82 u83 u84 u85 u86 u87 u88 u89 u90 u91 u92:Value,Q .normal ⟨#[c0,.pointer (some ⟨nb,0,none⟩),c2,c3,.map (some mb),c5,c6,.pointer (some ⟨xb,0,none⟩),.pointer (some ⟨kb,0,none⟩),.int .i64 (p:Int),.bool r,c11,c12,c13,c14,c15,c16,c17,c18,c19,c20,c21,c22,c23,c24,c25,c26,c27,c28,c29,c30,c31,c32,c33,c34,c35,c36,c37,c38,c39,c40,c41,c42,c43,c44,c45,c46,c47,c48,c49,c50,c51,u52,u53,u54,u55,u56,u57,u58,u59,u60,u61,u62,u63,u64,u65,u66,u67,u68,u69,u70,u71,u72,u73,u74,u75,u76,u77,u78,u79,u80,u81,u82,u83,u84,u85,u86,u87,u88,u89,u90,u91,u92,.bool q,c94,c95],[]⟩ w) :
 Code.wp Tryz.prog (U9 8) Q ⟨#[c0,.pointer (some ⟨nb,0,none⟩),c2,c3,.map (some mb),c5,c6,.pointer (some ⟨xb,0,none⟩),.pointer (some ⟨kb,0,none⟩),.int .i64 (p:Int),.bool r,c11,c12,c13,c14,c15,c16,c17,c18,c19,c20,c21,c22,c23,c24,c25,c26,c27,c28,c29,c30,c31,c32,c33,c34,c35,c36,c37,c38,c39,c40,c41,c42,c43,c44,c45,c46,c47,c48,c49,c50,c51,a52,a53,a54,a55,a56,a57,a58,a59,a60,a61,a62,a63,a64,a65,a66,a67,a68,a69,a70,a71,a72,a73,a74,a75,a76,a77,a78,a79,a80,a81,a82,a83,a84,a85,a86,a87,a88,a89,a90,a91,a92,a93,c94,c95],[]⟩ w:=by
 conv=>arg 2;whnf
 conv=>arg 4;zeta
 replace h:=zh h;have hcB:(co<0)∨(0≤co∧(n:Int)≤co)∨(0≤co∧co<n∧ho<0)∨(0≤co∧co<n∧0≤ho∧(n:Int)≤ho)∨(0≤co∧co<n∧0≤ho∧ho<n∧co=ho)∨(0≤co∧co<n∧0≤ho∧ho<n∧co≠ho):=by omega
 rcases hcB with b1 | ⟨b1,b2⟩ | ⟨b1,b2,b3⟩ | ⟨b1,b2,b3,b4⟩ | ⟨b1,b2,b3,b4,b5⟩ | ⟨b1,b2,b3,b4,b5⟩
 · have q0:True:=trivial;clear q0;obtain rfl:q=true:=by rw[hq,decide_eq_true (.inl b1)]
   clear hq;go_wp2;exact h.out ..
 · have q0:True:=trivial;clear q0;obtain rfl:q=true:=by rw[hq,decide_eq_true (.inr (.inl b2))]
   clear hq;go_wp2;exact h.out ..
 · have q0:True:=trivial;clear q0;obtain rfl:q=true:=by rw[hq,decide_eq_true (.inr (.inr (.inl b3)))]
   clear hq;go_wp2;exact h.out ..
 · have q0:True:=trivial;clear q0;obtain rfl:q=true:=by rw[hq,decide_eq_true (.inr (.inr (.inr (.inl b4))))]
   clear hq;go_wp2;exact h.out ..
 · have m5:(co==ho)=true:=by rw[beq_iff_eq];exact b5
   obtain rfl:q=true:=by rw[hq,decide_eq_true (.inr (.inr (.inr (.inr (.inl b5)))))]
   clear hq b5;go_wp2;exact h.out ..
 · have m5:(co==ho)=false:=by rw[beq_eq_false_iff_ne];exact b5
   cases r with
   | false =>
     obtain rfl:q=true:=by rw[hq,decide_eq_true (.inr (.inr (.inr (.inr (.inr (.inl rfl))))))]
     clear hq;go_wp2;exact h.out ..
   | true =>
     have hcP:p=0∨(1≤p∧6000<s)∨(1≤p∧s≤6000):=by omega
     rcases hcP with p1 | ⟨p1,p2⟩ | ⟨p1,p2⟩
     · have m6:((p:Int)==0)=true:=by rw[beq_iff_eq];omega
       have m7:(p==0)=true:=by rw[beq_iff_eq];exact p1
       obtain rfl:q=true:=by rw[hq,decide_eq_true (.inr (.inr (.inr (.inr (.inr (.inr (.inl p1)))))))]
       clear hq;replace p1:=zh p1;go_wp2;exact h.out ..
     · have m6:((p:Int)==0)=false:=by rw[beq_eq_false_iff_ne];omega
       have m7:(p==0)=false:=by rw[beq_eq_false_iff_ne];omega
       have m8:decide (6000<(s:Int))=true:=decide_eq_true (by omega);have m9:decide (6000<s)=true:=decide_eq_true p2;obtain rfl:q=true:=by rw[hq,decide_eq_true (.inr (.inr (.inr (.inr (.inr (.inr (.inr p2)))))))]
       clear hq;go_wp2;exact h.out ..
     · have m6:((p:Int)==0)=false:=by rw[beq_eq_false_iff_ne];omega
       have m7:(p==0)=false:=by rw[beq_eq_false_iff_ne];omega
       obtain rfl:q=false:=by rw[hq,decide_eq_false];rintro(c | c | c | c | c | c | c | c)<;>first | omega | exact b5 c | cases c
       have m8:decide (6000<(s:Int))=false:=decide_eq_false (by omega);have m9:decide (6000<s)=false:=decide_eq_false (by omega);have m10:decide (co<0)=false:=decide_eq_false (by omega);have m11:decide ((n:Int)≤co)=false:=decide_eq_false (by omega);have m12:decide (ho<0)=false:=decide_eq_false (by omega);have m13:decide ((n:Int)≤ho)=false:=decide_eq_false (by omega);clear hq;go_wp2;exact h.out ..
end Ci
end
section
open Go.RowKit Go.Shelf
namespace Ci
open Nt
def Bk (W:World) (b:Nat) (t:TypeId) (l:List Value):Prop:=W.heap[b]? = some (.cells l.toArray t (0,0))
section
variable {W W':World} {b:Nat} {t:TypeId} {l:List Value}
theorem Bk.lt (h:Bk W b t l):b<W.heap.size:=(Array.getElem?_eq_some_iff.1 h).1
theorem Bk.cell (h:Bk W b t l) {j:Nat} {v:Value} (hj:l[j]? = some v):W.cell? ⟨b,j,none⟩=some v:=by
 unfold Bk at h;simp[World.cell?,h,hj]
theorem Bk.c0 (h:Bk W b t l) {v:Value} (hj:l[0]?=some v:=by exact rfl):W.cell? ⟨b,0,none⟩=some v:=h.cell hj
theorem Bk.c1 (h:Bk W b t l) {v:Value} (hj:l[1]?=some v:=by exact rfl):W.cell? ⟨b,1,none⟩=some v:=h.cell hj
theorem Bk.c2 (h:Bk W b t l) {v:Value} (hj:l[2]?=some v:=by exact rfl):W.cell? ⟨b,2,none⟩=some v:=h.cell hj
theorem Bk.c3 (h:Bk W b t l) {v:Value} (hj:l[3]?=some v:=by exact rfl):W.cell? ⟨b,3,none⟩=some v:=h.cell hj
theorem Bk.c4 (h:Bk W b t l) {v:Value} (hj:l[4]?=some v:=by exact rfl):W.cell? ⟨b,4,none⟩=some v:=h.cell hj
theorem Bk.c5 (h:Bk W b t l) {v:Value} (hj:l[5]?=some v:=by exact rfl):W.cell? ⟨b,5,none⟩=some v:=h.cell hj
theorem Bk.c6 (h:Bk W b t l) {v:Value} (hj:l[6]?=some v:=by exact rfl):W.cell? ⟨b,6,none⟩=some v:=h.cell hj
theorem Bk.c7 (h:Bk W b t l) {v:Value} (hj:l[7]?=some v:=by exact rfl):W.cell? ⟨b,7,none⟩=some v:=h.cell hj
theorem Bk.frozen (h:Bk W b t l) (j:Nat):W.frozen? ⟨b,j,none⟩=false:=by
 unfold Bk at h;simp[World.frozen?,h]
theorem Bk.new (w:World) (t:TypeId) (l:List Value):Bk (w.alloc (.cells l.toArray t)) w.heap.size t l:=heap_alloc_new _ _
theorem Bk.below (h:Bk W b t l) (hb:Below W.heap.size W W'):Bk W' b t l:=(hb.block b h.lt).trans h
theorem Bk.alloc (h:Bk W b t l) (o:Obj):Bk (W.alloc o) b t l:=(Below.heap_alloc W o b h.lt).trans h
theorem Bk.grown {row:Option Nat} (h:Bk W b t l) (hg:W.grownBy W' row) (hne:some b≠row):Bk W' b t l:=(hg.block b h.lt hne).trans h
theorem Bk.far (h:Bk W b t l) {p:Addr} (hp:b≠p.block) (v:Value):Bk (W.setCell p v) b t l:=(Below.heap_setCell _ _ _ _ hp).trans h
theorem Bk.set (h:Bk W b t l) (j:Nat) (v:Value):Bk (W.setCell ⟨b,j,none⟩ v) b t (l.set j v):=by
 unfold Bk at h ⊢;simp[World.setCell,Array.getElem?_modify,h]
end
theorem sumU_take {l:List Lk} {k:Nat} (h:k<l.length) (c:Int):sumU (l.take (k+1)) c=sumU (l.take k) c+if l[k].1=c then unitsN (lkP l[k]) else 0:=by
 unfold sumU;rw[List.take_succ_eq_append_getElem h,List.filter_append,List.map_append,List.sum_append]
 congr 1
 by_cases e:l[k].1=c
 · rw[if_pos e,List.filter_cons,if_pos (decide_eq_true e)];simp
 · rw[if_neg e,List.filter_cons,if_neg (by simpa using e)];simp
theorem MS {n:Nat} {l:List Lk}:∀k,k≤l.length→(∀i (h:i<l.length),i<k→Cu n l i h)→∀c,sumU (l.take k) c≤6000:=by
 intro k
 induction k with
 | zero=>intro _ _ c;simp[sumU]
 | succ k ih =>
   intro hk h c;have h1:=ih (by omega) (fun i hi h2=>h i hi (by omega)) c;rw[sumU_take (by omega)]
   by_cases e:l[k].1=c
   · have h2:=(h k (by omega) (by omega)).2.2;rw[sumU_take (by omega),if_pos rfl,e]at h2;rw[if_pos e];exact h2
   · rw[if_neg e];omega
def Sr (W:World) (b:Nat) (l:List Lk) (k:Nat):Prop:=∃c f,MapK Tryz.prog 3 κi W b c f∧c≤k∧∀y:Int,(f y).getD (.int .i64 0)=.int .i64 (sumU (l.take k) y:Int)
def Vi (l:List Lk) (k:Nat):List Value:=match l[k-1]? with
 | some x=>if k=0 then [.int .i64 (-1),.int .i64 (-1)] else [.int .i64 x.1,.int .i64 x.2.1]
 | none=>[.int .i64 (-1),.int .i64 (-1)]
def DO (l:List Lk) (k:Nat):Int:=match l[k-1]? with
 | some x=>if k=0 then -1 else x.1
 | none=>-1
def E6 (l:List Lk) (k:Nat):Int:=match l[k-1]? with
 | some x=>if k=0 then -1 else x.2.1
 | none=>-1
theorem FY (l:List Lk):DO l 0=-1∧E6 l 0=-1:=by
 unfold DO E6
 cases l[0-1]?<;>simp
theorem IB {l:List Lk} {k:Nat} (h:k<l.length):DO l (k+1)=l[k].1∧E6 l (k+1)=l[k].2.1:=by
 unfold DO E6;rw[Nat.add_sub_cancel,List.getElem?_eq_getElem h];simp
theorem Qc {l:List Lk} {k:Nat} (h:k<l.length) (h0:0≤l[k].1):(0<k→GI (l[k-1]'(by omega)) l[k])↔(DO l k<l[k].1∨(DO l k=l[k].1∧E6 l k<l[k].2.1)):=by
 by_cases e:k=0
 · subst e;have:=FY l;constructor
   · intro _;left;omega
   · intro _ hc;omega
 · obtain⟨j,rfl⟩:∃j,k=j+1:=⟨k-1,by omega⟩;have hj:j<l.length:=by omega
   obtain⟨e1,e2⟩:=IB hj;rw[e1,e2];have hg:l[j+1-1]'(by omega)=l[j]:=by simp
   rw[hg];unfold GI;exact⟨fun h=>h (by omega),fun h _=>h⟩
def Ss (w:World) (n:Nat) (l:List Lk) (mb lb:Nat) (k:Nat) (wr:World):Prop :=
 Hid (Below w.heap.size w wr)∧Hid (Sr wr mb l k)∧Hid (Bk wr lb 90 [.int .i64 (DO l k),.int .i64 (E6 l k)])∧Hid (∀i (h:i<l.length),i<k→Cu n l i h)
theorem Fp:Go.Maps.Keyed Tryz.prog 3:=Go.Maps.int_keyed Tryz.underlying3
theorem Tz (w:World):(zeroValue 3).run Tryz.prog w=.ok (.int .i64 0) w:=by kernel_rfl
theorem Qe (A:Option Addr) (cap n nb:Nat) (l:List Lk) (w:World) (hE:Env w) (hl:InLk w A l) (hl47:l.length≤140737488355328) (hn:n≤140737488355328) (hnb:w.cell? ⟨nb,0,none⟩=some (.int .i64 (n:Int)))
 (hz:∀x,x∈l→x.2.2.2.1.size≤140737488355328∧x.2.2.2.2.size≤140737488355328) (hi:∀x,x∈l→(-9223372036854775808≤x.1∧x.1≤9223372036854775807)∧(-9223372036854775808≤x.2.1∧x.2.1≤9223372036854775807)) :
 Calls Tryz.prog 65 #[.slice A l.length cap,.pointer (some ⟨nb,0,none⟩)] w fun e w'=>e=.returned (.bool (De n l))∧Below w.heap.size w w':=by
 have hmm:=@run_makeMap Tryz.prog;have hnl:=World.block_lt_of_cell? w _ hnb;have hM0:Hid (Sr ((w.alloc (.map #[] 0)).alloc (.cells #[.int .i64 (-1),.int .i64 (-1)] 90)) w.heap.size l 0):=⟨0,_,(MapK.made w _ _ _).alloc _,Nat.le_refl _,fun y=>rfl⟩
 have hL0:Hid (Bk ((w.alloc (.map #[] 0)).alloc (.cells #[.int .i64 (-1),.int .i64 (-1)] 90)) (w.heap.size+1) 90 [.int .i64 (DO l 0),.int .i64 (E6 l 0)]):=by
  have h:=Bk.new (w.alloc (.map #[] 0)) 90 [.int .i64 (-1),.int .i64 (-1)];rw[World.size_alloc]at h;rw[(FY l).1,(FY l).2];exact h
 have hB0:Hid (Below w.heap.size w ((w.alloc (.map #[] 0)).alloc (.cells #[.int .i64 (-1),.int .i64 (-1)] 90))):=((Below.refl _ w).alloc (Nat.le_refl _) _).alloc (by simp) _;replace hE:=zh hE;replace hl:=zh hl;replace hz:=zh hz;replace hi:=zh hi;replace hnb:=zh hnb;have hGB:=zh (fun(k:Nat) (h:k<l.length) (hb:¬Cu n l k h)=>PQ (n:=n) (l:=l) h hb);have hGA:=zh (Km (n:=n) (l:=l));go_enter Tryz.func65,Tryz.ntmps65;go_wp2;clear hmm
 go_loopw [15] (fun i wr=>∃k:Nat,k≤l.length∧i=.int .i64 (k:Int)∧Hid (Ss w n l w.heap.size (w.heap.size+1) k wr)) (fun i _=>l.length-(intOf i).toNat)
 case atStart=>exact⟨0,Nat.zero_le _,rfl,hB0,hM0,hL0,fun i _ h=>absurd h (Nat.not_lt_zero _)⟩
 case round =>
  obtain⟨k,hk,rfl,hI⟩:=hrel;clear hM0 hL0 hB0;obtain⟨hB,hM,hL,hA⟩:=hI.out
  by_cases hlt:k<l.length
  · obtain ⟨b,o,rfl,hbl,hc⟩:=(hl.out.below hB.out) (by omega);obtain⟨e1,e2,e3,e4,e5⟩:=hc k hlt;have hzx:=hz.out l[k] (List.getElem_mem hlt);have hix:=hi.out l[k] (List.getElem_mem hlt);have hGBk:=zh (hGB.out k hlt);have hSu:=zh (sumU_take hlt);have hRi:=zh (Qc hlt);have hLs:=zh (IB hlt);have hsl:=MS k hk hA.out
    have hAl:Hid (Cu n l k hlt→∀i (h:i<l.length),i<k+1→Cu n l i h):=fun h i hi h2=>by
     by_cases e:i=k
     · subst e;exact h
     · exact hA.out i hi (by omega)
    have hLA:Hid (Cu n l k hlt↔(Own n l[k]∧(0<k→GI (l[k-1]'(by omega)) l[k])∧sumU (l.take (k+1)) l[k].1≤6000)):=Iff.rfl;obtain⟨x,hx⟩:∃x,x=l[k]:=⟨_,rfl⟩;rw[←hx]at e1 e2 e3 e4 e5 hzx hix hSu hRi hLs hLA;obtain⟨co,ho,g,nn,dd⟩:=x;replace e1:wr.cell? ⟨b,o+k*5,none⟩=some (.int .i64 co):=e1;replace e2:wr.cell? ⟨b,o+k*5+1,none⟩=some (.int .i64 ho):=e2;replace e3:wr.cell? ⟨b,o+k*5+2,none⟩=some (.bool g):=e3;replace e4:wr.cell? ⟨b,o+k*5+3,none⟩=some (.string nn):=e4;replace e5:wr.cell? ⟨b,o+k*5+4,none⟩=some (.string dd):=e5;obtain⟨⟨i1,i2⟩,i3,i4⟩:=hix;replace i1:-9223372036854775808≤co:=i1;replace i2:co≤9223372036854775807:=i2;replace i3:-9223372036854775808≤ho:=i3;replace i4:ho≤9223372036854775807:=i4;obtain⟨z1,z2⟩:=hzx;replace z1:nn.size≤140737488355328:=z1;replace z2:dd.size≤140737488355328:=z2;have hsk:=hsl co;have hp6:=PP (g,nn,dd);have ku:Hid (∀W,Env W→Calls Tryz.prog 66 #[.agg #[.bool g,.string nn,.string dd]] W fun e w'=>e=.returned (.int .i64 (unitsN (g,nn,dd):Int))∧Below W.heap.size W w'):=fun W hW=>Ob g nn dd W hW z1 z2;replace hLA:Hid (Cu n l k hlt↔((0≤co∧co<n)∧(0≤ho∧ho<n)∧co≠ho∧unitsN (g,nn,dd)≠0)∧(0<k→GI (l[k-1]'(by omega)) (co,ho,g,nn,dd))∧sumU (l.take (k+1)) co≤6000):=hLA;replace hRi:Hid (0≤co→((0<k→GI (l[k-1]'(by omega)) (co,ho,g,nn,dd))↔(DO l k<co∨(DO l k=co∧E6 l k<ho)))):=hRi;replace hSu:Hid (∀c,sumU (l.take (k+1)) c=sumU (l.take k) c+if co=c then unitsN (g,nn,dd) else 0):=hSu;replace hLs:Hid (DO l (k+1)=co∧E6 l (k+1)=ho):=hLs;have hSc:Hid (sumU (l.take (k+1)) co=sumU (l.take k) co+unitsN (g,nn,dd)):=by have h:=hSu.out co;rwa [if_pos rfl]at h
    obtain⟨p,hp⟩:∃p,p=unitsN (g,nn,dd):=⟨_,rfl⟩;rw[←hp]at hp6 ku hLA hSu hSc;obtain⟨sk,hske⟩:∃s,s=sumU (l.take k) co:=⟨_,rfl⟩;rw[←hske]at hsk hSc;obtain⟨lc,hlc⟩:∃s,s=DO l k:=⟨_,rfl⟩;obtain⟨lh,hlh⟩:∃s,s=E6 l k:=⟨_,rfl⟩;rw[←hlc,←hlh]at hL hRi;replace hp:=zh hp;replace hx:=zh hx;replace hske:=zh hske;replace hlc:=zh hlc;replace hlh:=zh hlh;have i0:(0:Int)≤(k:Int):=by omega
    have i5:(k:Int)<(l.length:Int):=by omega
    clear hc hsl hI hl hz hi;have hx1:Hid (Bk (wr.alloc (.cells #[.int .i64 co,.int .i64 ho,.bool g,.string nn,.string dd] 59)) wr.heap.size 59 [.int .i64 co,.int .i64 ho,.bool g,.string nn,.string dd]):=Bk.new wr _ _;have hB1:=zh (hB.out.alloc hB.out.size (.cells #[.int .i64 co,.int .i64 ho,.bool g,.string nn,.string dd] 59));have hL1:=zh (hL.out.alloc (.cells #[.int .i64 co,.int .i64 ho,.bool g,.string nn,.string dd] 59));obtain⟨mc,f,hMK,hmc,hf⟩:=hM.out;have hM1:=zh (hMK.alloc (.cells #[.int .i64 co,.int .i64 ho,.bool g,.string nn,.string dd] 59));replace hf:=zh hf;clear hMK
    go_wp2_with fail
    obtain⟨W1,hW1⟩:∃W,W=wr.alloc (.cells #[.int .i64 co,.int .i64 ho,.bool g,.string nn,.string dd] 59):=⟨_,rfl⟩;rw[←hW1]at hx1 hB1 hL1 hM1 ⊢;have hxw:w.heap.size+1<wr.heap.size:=hL.out.lt;obtain⟨xb,hxb⟩:∃b,b=wr.heap.size:=⟨_,rfl⟩;rw[←hxb]at hx1 hxw ⊢;clear hW1 hxb hL hB hM e1 e2 e3 e4 e5 hbl
    have HO:Hid (∀W,Below W1.heap.size W1 W→W.cell? ⟨xb,0,none⟩=some (.int .i64 co)∧W.cell? ⟨xb,1,none⟩=some (.int .i64 ho)∧W.cell? ⟨xb,2,none⟩=some (.bool g)∧W.cell? ⟨xb,3,none⟩=some (.string nn)∧W.cell? ⟨xb,4,none⟩=some (.string dd)):=fun W h =>
     have h:=hx1.out.below h
     ⟨h.c0,h.c1,h.c2,h.c3,h.c4⟩
    have hBw:Hid (Below W1.heap.size W1 W1):=Below.refl _ _;have hBa:Hid (Below W1.heap.size W1 (W1.alloc (.cells #[.int .i64 0,.int .i64 0] 90))):=(Below.refl _ _).alloc (Nat.le_refl _) _;have hBd:Hid (Below W1.heap.size W1 (W1.alloc (.cells #[.int .i64 0,.int .i64 0] 90)).drew):=hBa.out.drew;have hBe:Hid (Below W1.heap.size W1 W1.drew):=hBw.out.drew;have hEe:Hid (Env W1.drew):=hE.out.below (hB1.out.trans (hBe.out.mono hB1.out.size));have hEd:Hid (Env (W1.alloc (.cells #[.int .i64 0,.int .i64 0] 90)).drew):=hE.out.below (hB1.out.trans (hBd.out.mono hB1.out.size));have hxd:Hid (Bk (W1.alloc (.cells #[.int .i64 0,.int .i64 0] 90)).drew W1.heap.size 90 [.int .i64 0,.int .i64 0]):=Bk.new W1 90 _;have hxl:=hx1.out.lt
    go_region_held3 (fun w'=>w'.cell? ⟨xb,0,none⟩=some (.int .i64 co)∧w'.cell? ⟨xb,1,none⟩=some (.int .i64 ho)∧w'.cell? ⟨xb,2,none⟩=some (.bool g)∧w'.cell? ⟨xb,3,none⟩=some (.string nn)∧w'.cell? ⟨xb,4,none⟩=some (.string dd)) (first | (with_reducible exact HO.out _ hBw.out) | (with_reducible exact HO.out _ hBe.out) | (with_reducible exact HO.out _ hBd.out) | (with_reducible exact HO.out _ hBa.out) | (with_reducible exact HO.out _ hB2.out) | (with_reducible exact HO.out _ (hB2.out.alloc hB2.out.size _)) | (with_reducible exact HO.out _ ((hB2.out.setCell (Nat.le_refl _) _).setCell (Nat.le_refl _) _)) | go_keep)
     (first
       | (go_at_call 66;refine(ku.out _ ?_).mono ?_;(with_reducible exact hEd.out);rintro e w2 ⟨rfl,hb2⟩;have hx2:=zh (hxd.out.below hb2);have hB2:=zh (hBd.out.trans (hb2.mono hBd.out.size));have y1:=hx2.out.c0;have y2:=hx2.out.c1;have y3:=hx2.out.frozen 0;have y4:=hx2.out.frozen 1;have y5:=hx2.out.lt;clear hb2)
       | (go_at_call 66;refine(ku.out _ ?_).mono ?_;(with_reducible exact hEe.out);rintro e w2 ⟨rfl,hb2⟩;have hB2:=zh (hBe.out.trans (hb2.mono hBe.out.size));clear hb2))
    all_goals (
     first
      | (obtain⟨kb,hkb⟩:∃b,b=w2.heap.size:=⟨_,rfl⟩;obtain⟨w5,hw5⟩:∃W,W=w2.alloc (.cells #[.int .i64 co,.int .i64 ho] 90):=⟨_,rfl⟩;rw[←hw5,←hkb];have hk5:Hid (Bk w5 kb 90 [.int .i64 co,.int .i64 ho]):=(by rw[hw5,hkb];exact Bk.new w2 _ _);have hB5:Hid (Below W1.heap.size W1 w5):=(by rw[hw5];exact hB2.out.alloc hB2.out.size _);have hkl:W1.heap.size≤kb:=(by rw[hkb];exact hB2.out.size))
      | (obtain⟨kb,hkb⟩:∃b,b=W1.heap.size:=⟨_,rfl⟩;obtain⟨w5,hw5⟩:∃W,W=(w2.setCell ⟨W1.heap.size,0,none⟩ (.int .i64 co)).setCell ⟨W1.heap.size,1,none⟩ (.int .i64 ho):=⟨_,rfl⟩;rw[←hw5,←hkb];have hk5:Hid (Bk w5 kb 90 [.int .i64 co,.int .i64 ho]):=(by rw[hw5,hkb];exact(hx2.out.set 0 _).set 1 _);have hB5:Hid (Below W1.heap.size W1 w5):=(by rw[hw5];exact(hB2.out.setCell (Nat.le_refl _) _).setCell (Nat.le_refl _) _);have hkl:W1.heap.size≤kb:=(by rw[hkb];exact Nat.le_refl _);clear hx2 y1 y2 y3 y4 y5)
     clear hw5 hkb hB2 hBe hBd hBa hxd hEe hEd hBw;have hx5:=zh (hx1.out.below hB5.out);have hL5:=zh (hL1.out.below hB5.out);have hM5:=zh (hM1.out.below hB5.out);have hB6:=zh (hB1.out.trans (hB5.out.mono hB1.out.size));have hkx:xb<kb:=by omega
     clear HO hx1 hL1 hM1 hB1 hB5 hxl hkl;have hk1:=Ey Tryz.underlying3 i1 i2;have hlook:=hM5.out.look Fp Tryz.underlying88 (Tz _) hk1;rw[hf.out co,←hske.out]at hlook;obtain⟨w6,hrun,hM6,hg6⟩:=hM5.out.put FX Fp Tryz.underlying88 (by unfold maxLen;omega) hk1 (.int .i64 ((sk:Int)+(p:Int)));have u1:=hx5.out.c0;have u2:=hk5.out.c0;have u3:=hk5.out.c1;have s0:(0:Int)≤(sk:Int)+(p:Int):=by omega
     go_upto_region 7 with(fail)
     have hwm:some xb≠some w.heap.size:=fun e=>by have:=Option.some.inj e;omega
     have hkm:some kb≠some w.heap.size:=fun e=>by have:=Option.some.inj e;omega
     have hlm:some (w.heap.size+1)≠some w.heap.size:=fun e=>by have:=Option.some.inj e;omega
     have hx7:=zh (hx5.out.grown hg6 hwm);have hk7:=zh (hk5.out.grown hg6 hkm);have hL7:=zh (hL5.out.grown hg6 hlm);have hB7:Hid (Below w.heap.size w w6):=hB6.out.grown hg6 hB6.out.size (fun b e=>by cases e;exact Nat.le_refl _);have hlook6:=hM6.look Fp Tryz.underlying88 (Tz _) hk1;rw[BQ]at hlook6;replace hlook6:(Instr.lookup 88 (.map (some w.heap.size)) (.int .i64 co) false).run Tryz.prog w6=.ok (.int .i64 ((sk:Int)+(p:Int))) w6:=hlook6
     have hM7:Hid (Sr w6 w.heap.size l (k+1)):=by
      refine⟨_,_,hM6,by split<;>omega,fun y=>?_⟩
      by_cases e:y=co
      · rw[e,BQ,hSc.out];rfl
      · rw[BF e,hf.out y,hSu.out y,if_neg fun c=>e c.symm,Nat.add_zero]
     have n1:=(hB7.out.cell (p:=⟨nb,0,none⟩) hnl).trans hnb.out;have hkl7:Hid (w.heap.size+1≠kb):=fun e=>by omega
     clear hrun hlook hk1 hx5 hk5 hL5 hM5 hB6 hM6 hg6 u1 u2 u3 hwm hkm hlm hf;have u1:=hx7.out.c0;have u2:=hk7.out.c0;have u3:=hk7.out.c1;have u4:=hL7.out.c0;have u5:=hL7.out.c1;have u6:=hL7.out.frozen 0;have u7:=hL7.out.frozen 1;have u8:=hL7.out.lt;have u9:=hk7.out.lt;clear u6 u7;obtain⟨r,hr⟩:∃r:Bool,r=decide (lc<co∨(lc=co∧lh<ho)):=⟨_,rfl⟩;obtain⟨q,hq⟩:∃q:Bool,q=decide (co<0∨(n:Int)≤co∨ho<0∨(n:Int)≤ho∨co=ho∨r=false∨p=0∨6000<sk+p):=⟨_,rfl⟩;have hlook7:(Instr.lookup 88 (.map (some w.heap.size)) (.int .i64 co) false).run Tryz.prog w6=.ok (.int .i64 ((sk+p:Nat):Int)) w6:=hlook6;replace hr:=zh hr;replace hq:=zh hq;clear hlook6;refine UA kb (w.heap.size+1) co ho lc lh r hr.out w6 u2 u3 u4 u5 ?_;intro u33 u34 u35 u36 u37 u38 u39 u40 u41 u42 u43 u44 u45 u46 u47 u48 u49 u50 u51
     go_upto_region 8 with(fail)
     refine UB xb kb nb w.heap.size n p (sk+p) co ho r q hq.out w6 hp6 (by omega) hn u1 u2 u3 n1 hlook7 ?_;intro v52 v53 v54 v55 v56 v57 v58 v59 v60 v61 v62 v63 v64 v65 v66 v67 v68 v69 v70 v71 v72 v73 v74 v75 v76 v77 v78 v79 v80 v81 v82 v83 v84 v85 v86 v87 v88 v89 v90 v91 v92;clear u1 u2 u3 u4 u5 n1 hlook7 s0 hp6 hsk i0 i5
     cases q with
     | true =>
       have HG:Hid (De n l=false):=hGBk.out fun h=>by
        have h2:=hLA.out.1 h;have h3:=hq.out;have h4:=of_decide_eq_true h3.symm;have h5:=h2.2.2;rw[hSc.out]at h5;have h6:=(hRi.out h2.1.1.1).1 h2.2.1;have h7:r=true:=by rw[hr.out];exact decide_eq_true h6
        rw[h7]at h4;obtain⟨⟨d1,d2⟩,⟨d3,d4⟩,d5,d6⟩:=h2.1
        rcases h4 with c | c | c | c | c | c | c | c
        · omega
        · omega
        · omega
        · omega
        · exact d5 c
        · cases c
        · exact d6 c
        · omega
       clear hq hr hLA hRi hSc hGBk;go_wp2;go_ret;exact⟨Ai HG.out.symm,hB7.out⟩
     | false =>
       have hno:Hid (¬(co<0∨(n:Int)≤co∨ho<0∨(n:Int)≤ho∨co=ho∨r=false∨p=0∨6000<sk+p)):=of_decide_eq_false hq.out.symm
       have hrt:Hid (lc<co∨(lc=co∧lh<ho)):=by
        have h:=hr.out
        have h1:r=true:=by
         cases r
         · exact absurd (.inr (.inr (.inr (.inr (.inr (.inl rfl)))))) hno.out
         · rfl
        rw[h1]at h;have h9:lc<co∨(lc=co∧lh<ho):=of_decide_eq_true h.symm;exact h9
       have HN:Hid (∀i (h:i<l.length),i<k+1→Cu n l i h):=hAl.out (hLA.out.2 (by
        have h:=hno.out;refine⟨⟨⟨by omega,by omega⟩,⟨by omega,by omega⟩,fun c=>h (.inr (.inr (.inr (.inr (.inl c))))),by omega⟩,(hRi.out (by omega)).2 hrt.out,by rw[hSc.out];omega⟩))
       have hL8:Hid (Bk ((w6.setCell ⟨w.heap.size+1,0,none⟩ (.int .i64 co)).setCell ⟨w.heap.size+1,1,none⟩ (.int .i64 ho)) (w.heap.size+1) 90 [.int .i64 (DO l (k+1)),.int .i64 (E6 l (k+1))]):=by rw[hLs.out.1,hLs.out.2];exact(hL7.out.set 0 _).set 1 _
       have hB8:Hid (Below w.heap.size w ((w6.setCell ⟨w.heap.size+1,0,none⟩ (.int .i64 co)).setCell ⟨w.heap.size+1,1,none⟩ (.int .i64 ho))):=(hB7.out.setCell (p:=⟨w.heap.size+1,0,none⟩) (Nat.le_succ _) _).setCell (p:=⟨w.heap.size+1,1,none⟩) (Nat.le_succ _) _
       have hM8:Hid (Sr ((w6.setCell ⟨w.heap.size+1,0,none⟩ (.int .i64 co)).setCell ⟨w.heap.size+1,1,none⟩ (.int .i64 ho)) w.heap.size l (k+1)):=by
        obtain⟨c,f,h1,h2⟩:=hM7.out;exact⟨c,f,(h1.set (a:=⟨w.heap.size+1,0,none⟩) (Nat.ne_of_lt (Nat.lt_succ_self _)) _).set (a:=⟨w.heap.size+1,1,none⟩) (Nat.ne_of_lt (Nat.lt_succ_self _)) _,h2⟩
       clear hq hr hLA hRi hSc hGBk hno hrt hAl;have u2:=hk7.out.c0;have u3:=hk7.out.c1;have u4:=hL7.out.c0;have u5:=hL7.out.c1;have u6:=hL7.out.frozen 0;have u7:=hL7.out.frozen 1;have hk9:=hkl7.out;go_wp2
       go_roundw
       case rel=>exact⟨k+1,by omega,by go_num,hB8,hM8,hL8,HN⟩
       case measure=>simp[intOf];omega)
  · obtain rfl:k=l.length:=by omega
    have HG:=zh (hGA.out fun i h=>hA.out i h h);go_wp2;go_ret;exact⟨Ai HG.out.symm,hB.out⟩
end Ci
end
section
open Go.RowKit Go.Shelf
namespace Ci
open Nt
structure StIn (w:World) (s:SR) (Ap Ac Av:Option Addr):Prop where
 ps:InStr w Ap s.ps
 cap:InLk w Ac s.cap
 vot:InLk w Av s.vot
 np:s.ps.length≤140737488355328
 nc:s.cap.length≤140737488355328
 nv:s.vot.length≤140737488355328
 zp:∀x,x∈s.ps→x.size≤140737488355328
 zc:∀x,x∈s.cap→x.2.2.2.1.size≤140737488355328∧x.2.2.2.2.size≤140737488355328
 zv:∀x,x∈s.vot→x.2.2.2.1.size≤140737488355328∧x.2.2.2.2.size≤140737488355328
 ic:∀x,x∈s.cap→(-9223372036854775808≤x.1∧x.1≤9223372036854775807)∧(-9223372036854775808≤x.2.1∧x.2.1≤9223372036854775807)
 iv:∀x,x∈s.vot→(-9223372036854775808≤x.1∧x.1≤9223372036854775807)∧(-9223372036854775808≤x.2.1∧x.2.1≤9223372036854775807)
theorem StIn.below {w w':World} {s:SR} {Ap Ac Av:Option Addr} (h:StIn w s Ap Ac Av) (hb:Below w.heap.size w w'):StIn w' s Ap Ac Av :=
 ⟨h.ps.below hb,h.cap.below hb,h.vot.below hb,h.np,h.nc,h.nv,h.zp,h.zc,h.zv,h.ic,h.iv⟩
theorem St (t:TypeId) (a b:ByteArray):binOp .leq t (.string a) (.string b)=pure (.bool (NN a b)):=by simp[binOp,Op.stringOp,NN]
abbrev SC (s:SR) (Ap Ac Av:Option Addr) (cp cc cv:Nat):List Value:=[.slice Ap s.ps.length cp,.slice Ac s.cap.length cc,.slice Av s.vot.length cv]
theorem CW (s:SR) (Ap Ac Av:Option Addr) (cp cc cv:Nat) (w:World) (hE:Env w) (hs:StIn w s Ap Ac Av) :
 Calls Tryz.prog 27 #[.agg #[.slice Ap s.ps.length cp,.slice Ac s.cap.length cc,.slice Av s.vot.length cv]] w fun e w'=>e=.returned (.bool (soundB s))∧Below w.heap.size w w':=by
 have hp47:=hs.np;have hNB:=zh (fun(k:Nat) (h:k<s.ps.length) (hb:¬DC s.ps k h)=>NO (l:=s.ps) h hb);have hNA:=zh (NP (l:=s.ps));have hX0:Hid (Bk (w.alloc (.cells #[.slice Ap s.ps.length cp,.slice Ac s.cap.length cc,.slice Av s.vot.length cv] 25)) w.heap.size 25 (SC s Ap Ac Av cp cc cv)):=Bk.new w _ _;have hB0:Hid (Below w.heap.size w (w.alloc (.cells #[.slice Ap s.ps.length cp,.slice Ac s.cap.length cc,.slice Av s.vot.length cv] 25))):=(Below.refl _ w).alloc (Nat.le_refl _) _;have kg:=zh (fun A cap nb l W hE hl h1 h2 h3 h4 h5=>Qe A cap s.ps.length nb l W hE hl h1 h2 h3 h4 h5);replace hE:=zh hE;replace hs:=zh hs;go_enter Tryz.func27,Tryz.ntmps27;go_wp2
 go_loopw [10] (fun i wr=>∃k:Nat,k≤s.ps.length∧i=.int .i64 (k:Int)∧Hid (Below w.heap.size w wr)∧Hid (Bk wr w.heap.size 25 (SC s Ap Ac Av cp cc cv))∧Hid (∀i (h:i<s.ps.length),i<k→DC s.ps i h)) (fun i _=>s.ps.length-(intOf i).toNat)
 case atStart=>exact⟨0,Nat.zero_le _,rfl,hB0,hX0,fun i _ h=>absurd h (Nat.not_lt_zero _)⟩
 case round =>
  obtain⟨k,hk,rfl,hB,hX,hA⟩:=hrel;clear hX0 hB0
  by_cases hlt:k<s.ps.length
  · obtain ⟨b,o,rfl,hbl,hc⟩:=(hs.out.below hB.out).ps (by omega);have e1:=hc k hlt;have e0:Hid (0<k→wr.cell? ⟨b,o+(k-1),none⟩=some (.string (s.ps[k-1]'(by omega)))):=fun h=>hc (k-1) (by omega);have zx:=hs.out.zp s.ps[k] (List.getElem_mem hlt);have hNk:=zh (hNB.out k hlt)
    have hAl:Hid (DC s.ps k hlt→∀i (h:i<s.ps.length),i<k+1→DC s.ps i h):=fun h i hi h2=>by
     by_cases e:i=k
     · subst e;exact h
     · exact hA.out i hi (by omega)
    have hNI:Hid (DC s.ps k hlt↔AW s.ps[k]=true∧(0<k→NN s.ps[k] (s.ps[k-1]'(by omega))=false)):=Iff.rfl;obtain⟨nm,hnm⟩:∃x,x=s.ps[k]:=⟨_,rfl⟩;rw[←hnm]at e1 zx hNI;replace hnm:=zh hnm;have u0:=hX.out.c0;have u9:=hX.out.lt;have i0:(0:Int)≤(k:Int):=by omega
    have i1:(k:Int)<(s.ps.length:Int):=by omega
    have kn:=LF nm;clear hc
    cases hid:AW nm with
    | false =>
      have HG:Hid (soundB s=false):=by
       have:Hj s.ps=false:=hNk.out fun h=>by have:=(hNI.out.1 h).1;rw[hid]at this;cases this
       unfold Hid soundB;rw[this];rfl
      rw[hid]at kn;replace kn:=zh kn;clear hid hNI hAl
      go_wp2_with fail
      refine(kn.out _ (by omega)).mono ?_;rintro e w2 ⟨rfl,hb⟩;have hB2:=zh (hB.out.trans (hb.mono hB.out.size));clear hb;go_wp2;go_ret;exact⟨Ai HG.out.symm,hB2.out⟩
    | true =>
      rw[hid]at kn;replace kn:=zh kn
      by_cases hk0:k=0
      · have m1:decide (0<(k:Int))=false:=decide_eq_false (by omega);have m2:decide (0<k)=false:=decide_eq_false (by omega);have HN:=zh (hAl.out (hNI.out.2 ⟨hid,fun h=>by omega⟩));replace hk0:=zh hk0;clear hid hNI hAl hNk
        go_wp2_with fail
        refine(kn.out _ (by omega)).mono ?_;rintro e w2 ⟨rfl,hb⟩;have hB2:=zh (hB.out.trans (hb.mono hB.out.size));have hX2:=zh (hX.out.below hb);clear hb e1 u0 u9;go_wp2
        go_roundw
        case rel=>exact⟨k+1,by omega,by go_num,hB2,hX2,HN⟩
        case measure=>simp[intOf];omega
      · have m1:decide (0<(k:Int))=true:=decide_eq_true (by omega);have m2:decide (0<k)=true:=decide_eq_true (by omega);have e2:=e0.out (by omega);obtain⟨pm,hpm⟩:∃x,x=s.ps[k-1]'(by omega):=⟨_,rfl⟩;rw[←hpm]at e2
        have hNI2:Hid (DC s.ps k hlt↔AW nm=true∧NN nm pm=false):=by
         rw[hpm];exact⟨fun h=>⟨(hNI.out.1 h).1,(hNI.out.1 h).2 (by omega)⟩,fun h=>hNI.out.2 ⟨h.1,fun _=>h.2⟩⟩
        replace hpm:=zh hpm;have hbin:=St 9 nm pm;have j1:(0:Int)≤(k:Int)-1:=by omega
        have j2:(k:Int)-1<(s.ps.length:Int):=by omega
        have j3:((k:Int)-1).toNat=k-1:=by omega
        cases hlq:NN nm pm with
        | true =>
          have HG:Hid (soundB s=false):=by
           have:Hj s.ps=false:=hNk.out fun h=>by have:=(hNI2.out.1 h).2;rw[hlq]at this;cases this
           unfold Hid soundB;rw[this];rfl
          rw[hlq]at hbin;clear hid hNI hAl hNI2 hlq e0 hNk
          go_wp2_with fail
          refine(kn.out _ (by omega)).mono ?_;rintro e w2 ⟨rfl,hb⟩;have hB2:=zh (hB.out.trans (hb.mono hB.out.size));have hX2:=zh (hX.out.below hb);replace e2:=(hb.cell (p:=⟨b,o+(k-1),none⟩) hbl).trans e2;clear hb e1 u0 u9;have u0:=hX2.out.c0;have u9:=hX2.out.lt;go_wp2;go_ret;exact⟨Ai HG.out.symm,hB2.out⟩
        | false =>
          have HN:=zh (hAl.out (hNI2.out.2 ⟨hid,hlq⟩));rw[hlq]at hbin;clear hid hNI hAl hNI2 hlq e0 hNk
          go_wp2_with fail
          refine(kn.out _ (by omega)).mono ?_;rintro e w2 ⟨rfl,hb⟩;have hB2:=zh (hB.out.trans (hb.mono hB.out.size));have hX2:=zh (hX.out.below hb);replace e2:=(hb.cell (p:=⟨b,o+(k-1),none⟩) hbl).trans e2;clear hb e1 u0 u9;have u0:=hX2.out.c0;have u9:=hX2.out.lt;go_wp2
          go_roundw
          case rel=>exact⟨k+1,by omega,by go_num,hB2,hX2,HN⟩
          case measure=>simp[intOf];omega
  · obtain rfl:k=s.ps.length:=by omega
    have hnames:=hNA.out fun i h=>hA.out i h h
    have HG:Hid (soundB s=(decide (s.ps.length≤60)&&(De s.ps.length s.cap&&De s.ps.length s.vot))):=by
     unfold Hid soundB;rw[hnames];rfl
    clear hnames hA hNA hNB;have u0:=hX.out.c0;have u1:=hX.out.c1;have u2:=hX.out.c2;have u9:=hX.out.lt;have hX3:=zh (hX.out.alloc (.cells #[.int .i64 (s.ps.length:Int)] 3));have hN3:Hid (Bk (wr.alloc (.cells #[.int .i64 (s.ps.length:Int)] 3)) wr.heap.size 3 [.int .i64 (s.ps.length:Int)]):=Bk.new wr _ _;have hB3:=zh (hB.out.alloc hB.out.size (.cells #[.int .i64 (s.ps.length:Int)] 3))
    by_cases h60:s.ps.length≤60
    · cases hgc:De s.ps.length s.cap with
      | false =>
        have kc:=zh (kg.out Ac cc wr.heap.size s.cap _ (hE.out.below hB3.out) (hs.out.below hB3.out).cap hs.out.nc hp47 (hN3.out.c0) hs.out.zc hs.out.ic);rw[hgc]at kc;rw[hgc,Bool.false_and,Bool.and_false]at HG;replace HG:=zh HG.out;clear hgc kg
        go_wp2_with fail
        refine kc.out.mono ?_;rintro e w4 ⟨rfl,hb⟩;have hB4:=zh (hB3.out.trans (hb.mono hB3.out.size));clear hb;go_wp2;go_ret;exact⟨Ai HG.out.symm,hB4.out⟩
      | true =>
        have kc:=zh (kg.out Ac cc wr.heap.size s.cap _ (hE.out.below hB3.out) (hs.out.below hB3.out).cap hs.out.nc hp47 (hN3.out.c0) hs.out.zc hs.out.ic);have kv:=zh (fun W h1 h2 h3=>kg.out Av cv wr.heap.size s.vot W h1 h2 hs.out.nv hp47 h3 hs.out.zv hs.out.iv);rw[hgc]at kc;rw[hgc,Bool.true_and,decide_eq_true h60,Bool.true_and]at HG;replace HG:=zh HG.out;clear hgc kg
        go_wp2_with fail
        refine kc.out.mono ?_;rintro e w4 ⟨rfl,hb⟩;have hB4:=zh (hB3.out.trans (hb.mono hB3.out.size));have hX4:=zh (hX3.out.below hb);have hN4:=zh (hN3.out.below hb);clear hb u0 u1 u2 u9;have u0:=hX4.out.c0;have u1:=hX4.out.c1;have u2:=hX4.out.c2;have u9:=hX4.out.lt
        go_wp2_with fail
        refine(kv.out _ (hE.out.below hB4.out) (hs.out.below hB4.out).vot (hN4.out.c0)).mono ?_;rintro e w5 ⟨rfl,hb⟩;have hB5:=zh (hB4.out.trans (hb.mono hB4.out.size));clear hb;go_wp2;go_ret;exact⟨Ai (by rw[HG.out]),hB5.out⟩
    · have m1:decide ((s.ps.length:Int)≤60)=false:=decide_eq_false (by omega);have m2:decide (s.ps.length≤60)=false:=decide_eq_false h60;rw[m2,Bool.false_and]at HG;replace HG:=zh HG.out;go_wp2;go_ret;exact⟨Ai HG.out.symm,hB3.out⟩
end Ci
end
section
open Go.ChangeShapes Go.WideShapes Go.ChangeAt Go.RowKit Go.Shelf Go.Joins Go.Deep
namespace Ci
open Nt
section
variable {H:Type}
theorem Dh {P:Program} {e:TypeId} {d:DataW H}:∀{l:List (DataW H)},d∈l→∀m∈d.weights P e,m∈DataW.weightsAll P e l:=by
 intro l
 induction l with
 | nil=>intro h;cases h
 | cons a l ih =>
   intro h m hm;rw[DataW.weightsAll,List.mem_append]
   rcases List.mem_cons.1 h with rfl | h
   · exact .inl hm
   · exact .inr (ih h m hm)
theorem Bl {enc:TypeId×Value→H} {P:Program} {W W':World} {base:Nat} {sp':Nat→Bool} (hl:laidOutB P=true):∀{ts:List TypeId} {vs:List Value} {ds:List (DataW H)} {ps:List MemPlace},
 (∀t∈ts,P.readableRec t=true∧t<P.types.size)→DataW.TrodAll enc P W base (fun _=>true) true ts vs ds ps→(∀p∈ps,W.sameAt W' p)→(∀p∈ps,sp' p.block=true)→DataW.TrodAll enc P W' base sp' true ts vs ds ps
 | [],[],[],_,_,h,_,_=>h
 | _ :: _,_::_,_::_,_,hT,⟨p,q,h1,h2,e⟩,hs,hb =>
   ⟨p,q,WideElems.Trod_stays hl (hT _ (List.mem_cons.2 (.inl rfl))).1 (hT _ (List.mem_cons.2 (.inl rfl))).2 h1 (fun x hx=>hs x (by rw[e];exact List.mem_append_left _ hx)) (fun x hx=>hb x (by rw[e];exact List.mem_append_left _ hx)),
     Bl hl (fun t ht=>hT t (List.mem_cons.2 (.inr ht))) h2 (fun x hx=>hs x (by rw[e];exact List.mem_append_right _ hx)) (fun x hx=>hb x (by rw[e];exact List.mem_append_right _ hx)),e⟩
theorem Bu {ts:List TypeId} {ds:List (DataW H)} {j:Nat} {t:TypeId} {d:DataW H} (hsz:(DataW.weightsEach Tryz.prog ts ds).all (·≤reachBytes)=true) (ht:ts[j]? = some t) (hd:ds[j]? = some d):∀m∈d.weights Tryz.prog t,m≤140737488351232:=fun m hm =>
 of_decide_eq_true (List.all_eq_true.1 hsz _ (DataW.weights_mem_each (P:=Tryz.prog) ht hd m hm))
theorem Dz {α:Type} {f:α→DataW H} {l:List α} {d:DataW H} {t e:TypeId} (ht:Tryz.prog.underlying t=some (.slice e)) (hb:0<Tryz.prog.bytesOf e) (h:Ir f l d) (hw:∀m∈d.weights Tryz.prog t,m≤140737488351232) :
 l.length≤140737488355328∧∀x∈l,∀m∈(f x).weights Tryz.prog e,m≤140737488351232:=by
 rcases h with⟨_,rfl⟩ | ⟨rest,rfl⟩
 · exact⟨by simp,fun x h=>absurd h (by simp)⟩
 · have e1:(DataW.slice (l.map f) rest).weights Tryz.prog t=((l.map f).length+rest.length)*Tryz.prog.bytesOf e::(DataW.weightsAll Tryz.prog e (l.map f)++DataW.weightsAll Tryz.prog e rest):=by
    simp[DataW.weights,ht]
   rw[e1]at hw;have h1:=hw _ (List.mem_cons_self ..);rw[List.length_map]at h1;refine⟨?_,fun x hx m hm=>hw _ (List.mem_cons_of_mem _ (List.mem_append_left _ (Dh (List.mem_map_of_mem (f:=f) hx) m hm)))⟩;have h2:l.length≤(l.length+rest.length)*Tryz.prog.bytesOf e:=Nat.le_trans (Nat.le_add_right _ _) (Nat.le_mul_of_pos_right _ hb);omega
theorem Qf {x:ByteArray} (h:∀m∈(PX (H:=H) x).weights Tryz.prog 9,m≤140737488351232):x.size≤140737488355328:=by
 have h1:=h x.data.toList.length (by simp[PX,DataW.weights]);have z1:x.size=x.data.toList.length:=Lib.size_eq _;omega
theorem MT {x:Lk} (h:∀m∈(lkD (H:=H) x).weights Tryz.prog 59,m≤140737488351232):x.2.2.2.1.size≤140737488355328∧x.2.2.2.2.size≤140737488355328:=by
 have h1:=h x.2.2.2.1.data.toList.length (by simp[lkD,DataW.weights,DataW.weightsEach,Tryz.underlying59,Tryz.underlying40]);have h2:=h x.2.2.2.2.data.toList.length (by simp[lkD,DataW.weights,DataW.weightsEach,Tryz.underlying59,Tryz.underlying40]);have z1:x.2.2.2.1.size=x.2.2.2.1.data.toList.length:=Lib.size_eq _;have z2:x.2.2.2.2.size=x.2.2.2.2.data.toList.length:=Lib.size_eq _;omega
end
section
variable {H:Type} {enc:TypeId×Value→H} {w:World} {base:Nat} {held:Bool}
def TP (s:SR) (d:DataW H):Prop:=∃dp dc dv,d=.agg [dp,dc,dv]∧Ir PX s.ps dp∧Ir lkD s.cap dc∧Ir lkD s.vot dv
theorem Qg:Tryz.prog.cellsOf 25=3:=by kernel_rfl
theorem Kv {r:Go.Reach} {b0:Nat} {v:Value} {d:DataW H} {p:List MemPlace} (hv:Value.okWide Tryz.prog w r b0 25 v) (h:DataW.Trod enc Tryz.prog w base (fun _=>true) held 25 v d p) :
 ∃(Ap Ac Av:Option Addr) (cp cc cv:Nat) (s:SR),v=.agg #[.slice Ap s.ps.length cp,.slice Ac s.cap.length cc,.slice Av s.vot.length cv]∧TP s d∧InStr w Ap s.ps∧InLk w Ac s.cap∧InLk w Av s.vot∧(∀y,y∈s.cap→Du y.1∧Du y.2.1)∧(∀y,y∈s.vot→Du y.1∧Du y.2.1)∧s.cap.length≤cc:=by
 obtain⟨c0,c1,c2,y0,y1,y2,m,rfl,rfl,_,hy0,hy1,hy2⟩:=open_agg3 Tryz.underlying25 (by kernel_rfl) Qg hv h;obtain⟨Ap,cp,ps,e0,i0,m0⟩:=LE hy0;obtain⟨Ac,cc,cap,e1,i1,m1,z1,k1⟩:=I8 hy1;obtain⟨Av,cv,vot,e2,i2,m2,z2⟩:=PZ hy2;simp only[List.cons.injEq,and_true]at e0 e1 e2;subst e0 e1 e2;exact⟨Ap,Ac,Av,cp,cc,cv,⟨ps,cap,vot⟩,rfl,⟨_,_,_,rfl,i0,i1,i2⟩,m0,m1,m2,z1,z2,k1⟩
theorem Ju {r:Go.Reach} {b0:Nat} {v:Value} {d:DataW H} {p:List MemPlace} (hv:Value.okWide Tryz.prog w r b0 25 v) (h:DataW.Trod enc Tryz.prog w base (fun _=>true) held 25 v d p) :
 ∃(Ap Ac Av:Option Addr) (cp cc cv:Nat) (s:SR),v=.agg #[.slice Ap s.ps.length cp,.slice Ac s.cap.length cc,.slice Av s.vot.length cv]∧TP s d∧InStr w Ap s.ps∧InLk w Ac s.cap∧InLk w Av s.vot∧(∀y,y∈s.cap→Du y.1∧Du y.2.1)∧∀y,y∈s.vot→Du y.1∧Du y.2.1:=by
 obtain⟨Ap,Ac,Av,cp,cc,cv,s,h1,h2,h3,h4,h5,h6,h7,_⟩:=Kv hv h;exact⟨Ap,Ac,Av,cp,cc,cv,s,h1,h2,h3,h4,h5,h6,h7⟩
theorem GS {s:SR} {d:DataW H} {Ap Ac Av:Option Addr} (h:TP s d) (hw:∀m∈d.weights Tryz.prog 25,m≤140737488351232) (m0:InStr w Ap s.ps) (m1:InLk w Ac s.cap) (m2:InLk w Av s.vot)
 (z1:∀y,y∈s.cap→Du y.1∧Du y.2.1) (z2:∀y,y∈s.vot→Du y.1∧Du y.2.1):StIn w s Ap Ac Av:=by
 obtain⟨dp,dc,dv,rfl,i0,i1,i2⟩:=h
 have e:(DataW.agg [dp,dc,dv]).weights Tryz.prog 25=dp.weights Tryz.prog 22++(dc.weights Tryz.prog 23++dv.weights Tryz.prog 23):=by
  simp[DataW.weights,DataW.weightsEach,Tryz.underlying25]
 rw[e]at hw;obtain⟨a1,a2⟩:=Dz Tryz.underlying22 (Nat.lt_of_lt_of_eq (by decide:0<16) (by kernel_rfl)) i0 fun m hm=>hw m (List.mem_append_left _ hm);obtain⟨b1,b2⟩:=Dz Tryz.underlying23 (Nat.lt_of_lt_of_eq (by decide:0<56) (by kernel_rfl)) i1 fun m hm=>hw m (List.mem_append_right _ (List.mem_append_left _ hm));obtain⟨c1,c2⟩:=Dz Tryz.underlying23 (Nat.lt_of_lt_of_eq (by decide:0<56) (by kernel_rfl)) i2 fun m hm=>hw m (List.mem_append_right _ (List.mem_append_right _ hm));exact⟨m0,m1,m2,a1,b1,c1,fun x hx=>Qf (a2 x hx),fun x hx=>MT (b2 x hx),fun x hx=>MT (c2 x hx),z1,z2⟩
theorem Eh {r:Go.Reach} {b0:Nat} {v:Value} {d:DataW H} {p:List MemPlace} (hv:Value.okWide Tryz.prog w r b0 26 v) (h:DataW.Trod enc Tryz.prog w base (fun _=>true) held 26 v d p) :
 ∃(A:Option Addr) (cap:Nat) (l:List Int),v=.slice A l.length cap∧Ir Sq l d∧InInt w A l∧∀y,y∈l→Du y:=by
 obtain⟨a,len,c,rfl⟩:=okWide_slice Tryz.underlying26 hv;obtain⟨n,hn⟩:=h;obtain⟨A,cap,l,e,h1,h2,h3⟩:=Hm hn;refine⟨A,cap,l,?_,h1,h2,h3⟩
 simpa [Value.cells] using e
end
end Ci
end
section
open Go.RowKit Go.Shelf
namespace Nt
def InInt (z:Int):Prop:=-9223372036854775808≤z∧z≤9223372036854775807
end Nt
end
section
open Go.RowKit
namespace Nt
def Dg (k:Nat) (q:Rat):Prop:=q.num.natAbs<10^k∧q.den<10^k
theorem Dg.mono {k m:Nat} {q:Rat} (h:Dg k q) (hk:k≤m):Dg m q:=by
 have:10^k≤10^m:=Nat.pow_le_pow_right (by omega) hk;exact⟨Nat.lt_of_lt_of_le h.1 this,Nat.lt_of_lt_of_le h.2 this⟩
theorem Dg.short {k:Nat} {q:Rat} (h:Dg k q) (hk:k≤140):ShortQ q:=by
 have:=h.mono (m:=mx1) (by rw[DB];exact hk);exact this
theorem Hn (n:Int) (d:Nat) (hd:d≠0):(mkRat n d).num.natAbs≤n.natAbs∧(mkRat n d).den≤d:=by
 have e:n=sg (decide (n<0)) n.natAbs:=(BW n).symm;rw[e,PI _ _ _ hd,PJ _ _ _ hd,BP,BP];exact⟨Nat.div_le_self _ _,Nat.div_le_self _ _⟩
theorem Dg.add {k m:Nat} {p q:Rat} (hp:Dg k p) (hq:Dg m q):Dg (k+m+1) (p+q):=by
 have hd:p.den*q.den≠0:=Nat.mul_ne_zero p.den_nz q.den_nz;have h:=Hn (p.num*q.den+q.num*p.den) (p.den*q.den) hd;rw[Js]at h;have e:10^(k+m+1)=10^k*10^m*10:=by rw[Nat.pow_succ,Nat.pow_add]
 have h1:p.num.natAbs*q.den<10^k*10^m:=Nat.mul_lt_mul'' hp.1 hq.2;have h2:q.num.natAbs*p.den<10^m*10^k:=Nat.mul_lt_mul'' hq.1 hp.2;have h3:p.den*q.den<10^k*10^m:=Nat.mul_lt_mul'' hp.2 hq.2;rw[Nat.mul_comm (10^m)]at h2;have h4:=Int.natAbs_add_le (p.num*q.den) (q.num*p.den);rw[Int.natAbs_mul,Int.natAbs_mul,Int.natAbs_natCast,Int.natAbs_natCast]at h4;unfold Dg;rw[e];generalize 10^k*10^m=X at *;exact⟨by omega,by omega⟩
theorem Dg.neg {k:Nat} {q:Rat} (h:Dg k q):Dg k (-q):=⟨by show (-q.num).natAbs<10^k;rw[Int.natAbs_neg];exact h.1,h.2⟩
theorem Dg.sub {k m:Nat} {p q:Rat} (hp:Dg k p) (hq:Dg m q):Dg (k+m+1) (p-q):=by rw[Rat.sub_eq_add_neg];exact hp.add hq.neg
theorem Dg.mul {k m:Nat} {p q:Rat} (hp:Dg k p) (hq:Dg m q):Dg (k+m) (p*q):=by
 have hd:p.den*q.den≠0:=Nat.mul_ne_zero p.den_nz q.den_nz;have h:=Hn (p.num*q.num) (p.den*q.den) hd;rw[←Rat.mul_def']at h;have h1:p.num.natAbs*q.num.natAbs<10^k*10^m:=Nat.mul_lt_mul'' hp.1 hq.1;have h3:p.den*q.den<10^k*10^m:=Nat.mul_lt_mul'' hp.2 hq.2;rw[Int.natAbs_mul]at h;unfold Dg;rw[Nat.pow_add];exact⟨by omega,by omega⟩
theorem Dg.div {k m:Nat} {p q:Rat} (hp:Dg k p) (hq:Dg m q) (h0:q≠0):Dg (k+m) (p/q):=by
 have hn:=CA h0;have hd:p.den*q.num.natAbs≠0:=Nat.mul_ne_zero p.den_nz (by omega);have h:=Hn (sg (decide (p.num<0) != decide (q.num<0)) (p.num.natAbs*q.den)) (p.den*q.num.natAbs) hd;rw[PO,BP]at h;have h1:p.num.natAbs*q.den<10^k*10^m:=Nat.mul_lt_mul'' hp.1 hq.2;have h3:p.den*q.num.natAbs<10^k*10^m:=Nat.mul_lt_mul'' hp.2 hq.1;unfold Dg;rw[Nat.pow_add];exact⟨by omega,by omega⟩
end Nt
end
section
open Go.RowKit Go.Shelf
namespace Nt
abbrev UW (w:World) (g1:Bool) (n1 d1:ByteArray):World:=w.alloc (.cells #[.bool g1,.string n1,.string d1] 40)
theorem Fq (w:World) (g1:Bool) (n1 d1:ByteArray):Below w.heap.size w (UW w g1 n1 d1):=(Below.refl _ w).alloc (Nat.le_refl _) _
end Nt
end
end Go.Proofs.YtilodknkildkbaaGreatDoor

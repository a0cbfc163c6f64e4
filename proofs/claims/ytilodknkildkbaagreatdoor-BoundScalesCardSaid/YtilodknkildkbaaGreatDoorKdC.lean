/- Texts that the proof needs: RatOps, RatOf, RatText, RatWrap, CirWrap, CirNames, CirUnits, CirMap, CirGood7, CirGood, CirWell, CirWrapS, RatFloor, RatDig, RatDuo. -/
import Derived.Lib.IndexMore
import Derived.Shelf.Vars
import Derived.SizedLaws
import Derived.Lib.SmallJoins
import Derived.DataShut
import Derived.WideKeyArgs
import Derived.Deep.Slices
import Derived.Deep.Strs
import Derived.Maps.OwnSet
import Derived.Maps.Views
import Derived.WalkKit
import Derived.IntWalk
import Derived.Deep.RegionHeld3
import Derived.LaidEql
import Derived.Test.YtilodknkildkbaaGreatDoorKdA
import Derived.Test.YtilodknkildkbaaGreatDoorKdB
set_option maxHeartbeats 16000000
set_option maxRecDepth 1000000
namespace Go.Proofs.YtilodknkildkbaaGreatDoor
section
open Go.RowKit Go.Shelf
namespace Nt
theorem AT {g:Bool} {n d:ByteArray} (h:Ax g n d=true):n.size<=300/\d.size<=300:=by
 unfold Ax at h;simp only[Bool.and_eq_true]at h;exact⟨AU h.1,AU h.2.1⟩
theorem Bt {q:Rat} (h:ShortQ q):(T (some q.num.natAbs)).size<=140/\(T (some q.den)).size<=140:=⟨(Hf _).2 h.1,(Hf _).2 h.2⟩
theorem AV {q:Rat} (h1:(T (some q.num.natAbs)).size<=140) (h2:(T (some q.den)).size<=140):ShortQ q:=⟨(Hf _).1 h1,(Hf _).1 h2⟩
theorem CT {q:Rat} (h:q≠0):q.num≠0:=fun e=>h (Rat.num_eq_zero.1 e)
theorem U6 (g1 g2:Bool) (n1 d1 n2 d2:ByteArray) (r:Bool) (n d:ByteArray) (E:Int) (w:World) (hE:Env w)
 (hr:∀W,Env W->Calls Tryz.prog 63 #[.agg #[.bool false,.func (.func 88) #[] #[]],.agg #[.bool g1,.string n1,.string d1],.agg #[.bool g2,.string n2,.string d2]] W fun e w'=>e=.returned (.tuple #[.agg #[.bool r,.string n,.string d],.int .i64 E])/\Below W.heap.size W w') :
 Calls Tryz.prog 41 #[.agg #[.bool g1,.string n1,.string d1],.agg #[.bool g2,.string n2,.string d2]] w fun e w'=>e=.returned (.tuple #[.agg #[.bool r,.string n,.string d],.int .i64 E])/\Below w.heap.size w w':=by
 have ad:=zh (TwoBoxes.new w g1 g2 n1 d1 n2 d2);have a:=zh (CH w g1 g2 n1 d1 n2 d2);replace hE:=zh hE;replace hr:=zh hr;go_enter Tryz.func41,Tryz.ntmps41
 go_wp2_with fail
 refine(hr.out _ (hE.out.below a.out)).mono ?_;rintro e w1 ⟨rfl,h⟩;have q1:=ad.out.below h;have aa:=zh (a.out.trans (h.mono a.out.size));obtain⟨c1,c2,c3,c4,c5,c6⟩:=q1.2.2.facts;have ae:=q1.2.2.lt;clear h;replace q1:=zh q1;go_wp2;refine bodyPost_ret (v:=.tuple #[.agg #[.bool r,.string n,.string d],.int .i64 E]) (by simp[results,Tryz.results41,go_sem,c1,c2,c3]) rfl ⟨rfl,?_⟩
 repeat refine Below.setCell ?_ (by simp only[];omega) _
 exact aa.out
theorem IR (p q:Rat) (hp:ShortQ p) (hq:ShortQ q) (w:World) (hE:Env w) :
 Calls Tryz.prog 41 #[qv p,qv q] w fun e w'=>e=.returned (.tuple #[qv (p+q),.int .i64 0])/\Below w.heap.size w w':=by
 have l1:=Bt hp;have l2:=Bt hq;refine U6 _ _ _ _ _ _ _ _ _ _ w hE fun W hW=>?_;exact Tx _ _ _ _ _ _ W hW (by omega) (by omega) (by omega) (by omega) (AP hp.ok) (AP hq.ok) l1.1 l1.2 l2.1 l2.2 _ _ _ _ fun W2 h2=>U5 p q hp hq W2 h2
theorem VR (p q:Rat) (hp:OkQ p) (hq:OkQ q) (hl:¬(ShortQ p/\ShortQ q)) (w:World) (hE:Env w) :
 Calls Tryz.prog 41 #[qv p,qv q] w fun e w'=>e=.returned (.tuple #[zv,.int .i64 2])/\Below w.heap.size w w':=by
 have v1:=AP hp;have v2:=AP hq;have l1:=AT v1;have l2:=AT v2;refine U6 _ _ _ _ _ _ false ⟨#[]⟩ ⟨#[]⟩ 2 w hE fun W hW=>?_;exact FK false 88 _ _ _ _ _ _ W hW (by omega) (by omega) (by omega) (by omega) v1 v2 (.inl rfl) fun h=>hl ⟨AV h.1 h.2.1,AV h.2.2.1 h.2.2.2⟩
theorem U7 (g1 g2:Bool) (n1 d1 n2 d2:ByteArray) (r:Bool) (n d:ByteArray) (E:Int) (w:World) (hE:Env w)
 (hr:∀W,Env W->Calls Tryz.prog 63 #[.agg #[.bool false,.func (.func 147) #[] #[]],.agg #[.bool g1,.string n1,.string d1],.agg #[.bool g2,.string n2,.string d2]] W fun e w'=>e=.returned (.tuple #[.agg #[.bool r,.string n,.string d],.int .i64 E])/\Below W.heap.size W w') :
 Calls Tryz.prog 108 #[.agg #[.bool g1,.string n1,.string d1],.agg #[.bool g2,.string n2,.string d2]] w fun e w'=>e=.returned (.tuple #[.agg #[.bool r,.string n,.string d],.int .i64 E])/\Below w.heap.size w w':=by
 have ad:=zh (TwoBoxes.new w g1 g2 n1 d1 n2 d2);have a:=zh (CH w g1 g2 n1 d1 n2 d2);replace hE:=zh hE;replace hr:=zh hr;go_enter Tryz.func108,Tryz.ntmps108
 go_wp2_with fail
 refine(hr.out _ (hE.out.below a.out)).mono ?_;rintro e w1 ⟨rfl,h⟩;have q1:=ad.out.below h;have aa:=zh (a.out.trans (h.mono a.out.size));obtain⟨c1,c2,c3,c4,c5,c6⟩:=q1.2.2.facts;have ae:=q1.2.2.lt;clear h;replace q1:=zh q1;go_wp2;refine bodyPost_ret (v:=.tuple #[.agg #[.bool r,.string n,.string d],.int .i64 E]) (by simp[results,Tryz.results108,go_sem,c1,c2,c3]) rfl ⟨rfl,?_⟩
 repeat refine Below.setCell ?_ (by simp only[];omega) _
 exact aa.out
theorem IS (p q:Rat) (hp:ShortQ p) (hq:ShortQ q) (w:World) (hE:Env w) :
 Calls Tryz.prog 108 #[qv p,qv q] w fun e w'=>e=.returned (.tuple #[qv (p-q),.int .i64 0])/\Below w.heap.size w w':=by
 have l1:=Bt hp;have l2:=Bt hq;refine U7 _ _ _ _ _ _ _ _ _ _ w hE fun W hW=>?_;exact Ty _ _ _ _ _ _ W hW (by omega) (by omega) (by omega) (by omega) (AP hp.ok) (AP hq.ok) l1.1 l1.2 l2.1 l2.2 _ _ _ _ fun W2 h2=>Vc p q hp hq W2 h2
theorem QI (p q:Rat) (hp:OkQ p) (hq:OkQ q) (hl:¬(ShortQ p/\ShortQ q)) (w:World) (hE:Env w) :
 Calls Tryz.prog 108 #[qv p,qv q] w fun e w'=>e=.returned (.tuple #[zv,.int .i64 2])/\Below w.heap.size w w':=by
 have v1:=AP hp;have v2:=AP hq;have l1:=AT v1;have l2:=AT v2;refine U7 _ _ _ _ _ _ false ⟨#[]⟩ ⟨#[]⟩ 2 w hE fun W hW=>?_;exact FK false 147 _ _ _ _ _ _ W hW (by omega) (by omega) (by omega) (by omega) v1 v2 (.inl rfl) fun h=>hl ⟨AV h.1 h.2.1,AV h.2.2.1 h.2.2.2⟩
theorem U8 (g1 g2:Bool) (n1 d1 n2 d2:ByteArray) (r:Bool) (n d:ByteArray) (E:Int) (w:World) (hE:Env w)
 (hr:∀W,Env W->Calls Tryz.prog 63 #[.agg #[.bool false,.func (.func 62) #[] #[]],.agg #[.bool g1,.string n1,.string d1],.agg #[.bool g2,.string n2,.string d2]] W fun e w'=>e=.returned (.tuple #[.agg #[.bool r,.string n,.string d],.int .i64 E])/\Below W.heap.size W w') :
 Calls Tryz.prog 26 #[.agg #[.bool g1,.string n1,.string d1],.agg #[.bool g2,.string n2,.string d2]] w fun e w'=>e=.returned (.tuple #[.agg #[.bool r,.string n,.string d],.int .i64 E])/\Below w.heap.size w w':=by
 have ad:=zh (TwoBoxes.new w g1 g2 n1 d1 n2 d2);have a:=zh (CH w g1 g2 n1 d1 n2 d2);replace hE:=zh hE;replace hr:=zh hr;go_enter Tryz.func26,Tryz.ntmps26
 go_wp2_with fail
 refine(hr.out _ (hE.out.below a.out)).mono ?_;rintro e w1 ⟨rfl,h⟩;have q1:=ad.out.below h;have aa:=zh (a.out.trans (h.mono a.out.size));obtain⟨c1,c2,c3,c4,c5,c6⟩:=q1.2.2.facts;have ae:=q1.2.2.lt;clear h;replace q1:=zh q1;go_wp2;refine bodyPost_ret (v:=.tuple #[.agg #[.bool r,.string n,.string d],.int .i64 E]) (by simp[results,Tryz.results26,go_sem,c1,c2,c3]) rfl ⟨rfl,?_⟩
 repeat refine Below.setCell ?_ (by simp only[];omega) _
 exact aa.out
theorem Do (p q:Rat) (hp:ShortQ p) (hq:ShortQ q) (w:World) (hE:Env w) :
 Calls Tryz.prog 26 #[qv p,qv q] w fun e w'=>e=.returned (.tuple #[qv (p*q),.int .i64 0])/\Below w.heap.size w w':=by
 have l1:=Bt hp;have l2:=Bt hq;refine U8 _ _ _ _ _ _ _ _ _ _ w hE fun W hW=>?_;exact KI _ _ _ _ _ _ W hW (by omega) (by omega) (by omega) (by omega) (AP hp.ok) (AP hq.ok) l1.1 l1.2 l2.1 l2.2 _ _ _ _ fun W2 h2=>OD p q hp hq W2 h2
theorem QJ (p q:Rat) (hp:OkQ p) (hq:OkQ q) (hl:¬(ShortQ p/\ShortQ q)) (w:World) (hE:Env w) :
 Calls Tryz.prog 26 #[qv p,qv q] w fun e w'=>e=.returned (.tuple #[zv,.int .i64 2])/\Below w.heap.size w w':=by
 have v1:=AP hp;have v2:=AP hq;have l1:=AT v1;have l2:=AT v2;refine U8 _ _ _ _ _ _ false ⟨#[]⟩ ⟨#[]⟩ 2 w hE fun W hW=>?_;exact FK false 62 _ _ _ _ _ _ W hW (by omega) (by omega) (by omega) (by omega) v1 v2 (.inl rfl) fun h=>hl ⟨AV h.1 h.2.1,AV h.2.2.1 h.2.2.2⟩
theorem U9 (g1 g2:Bool) (n1 d1 n2 d2:ByteArray) (r:Bool) (n d:ByteArray) (E:Int) (w:World) (hE:Env w)
 (hr:∀W,Env W->Calls Tryz.prog 63 #[.agg #[.bool true,.func (.func 146) #[] #[]],.agg #[.bool g1,.string n1,.string d1],.agg #[.bool g2,.string n2,.string d2]] W fun e w'=>e=.returned (.tuple #[.agg #[.bool r,.string n,.string d],.int .i64 E])/\Below W.heap.size W w') :
 Calls Tryz.prog 106 #[.agg #[.bool g1,.string n1,.string d1],.agg #[.bool g2,.string n2,.string d2]] w fun e w'=>e=.returned (.tuple #[.agg #[.bool r,.string n,.string d],.int .i64 E])/\Below w.heap.size w w':=by
 have ad:=zh (TwoBoxes.new w g1 g2 n1 d1 n2 d2);have a:=zh (CH w g1 g2 n1 d1 n2 d2);replace hE:=zh hE;replace hr:=zh hr;go_enter Tryz.func106,Tryz.ntmps106
 go_wp2_with fail
 refine(hr.out _ (hE.out.below a.out)).mono ?_;rintro e w1 ⟨rfl,h⟩;have q1:=ad.out.below h;have aa:=zh (a.out.trans (h.mono a.out.size));obtain⟨c1,c2,c3,c4,c5,c6⟩:=q1.2.2.facts;have ae:=q1.2.2.lt;clear h;replace q1:=zh q1;go_wp2;refine bodyPost_ret (v:=.tuple #[.agg #[.bool r,.string n,.string d],.int .i64 E]) (by simp[results,Tryz.results106,go_sem,c1,c2,c3]) rfl ⟨rfl,?_⟩
 repeat refine Below.setCell ?_ (by simp only[];omega) _
 exact aa.out
theorem OE (p q:Rat) (hp:ShortQ p) (hq:ShortQ q) (h0:q≠0) (w:World) (hE:Env w) :
 Calls Tryz.prog 106 #[qv p,qv q] w fun e w'=>e=.returned (.tuple #[qv (p/q),.int .i64 0])/\Below w.heap.size w w':=by
 have l1:=Bt hp;have l2:=Bt hq;have hn:=CT h0;have hz:=AC q.num.natAbs;rw[decide_eq_false (by omega)]at hz;refine U9 _ _ _ _ _ _ _ _ _ _ w hE fun W hW=>?_;exact Tz _ _ _ _ _ _ W hW (by omega) (by omega) (by omega) (by omega) (AP hp.ok) (AP hq.ok) hz l1.1 l1.2 l2.1 l2.2 _ _ _ _ fun W2 h2=>UY p q hp hq hn W2 h2
theorem QK (p q:Rat) (hp:OkQ p) (hq:OkQ q) (h0:q≠0) (hl:¬(ShortQ p/\ShortQ q)) (w:World) (hE:Env w) :
 Calls Tryz.prog 106 #[qv p,qv q] w fun e w'=>e=.returned (.tuple #[zv,.int .i64 2])/\Below w.heap.size w w':=by
 have v1:=AP hp;have v2:=AP hq;have l1:=AT v1;have l2:=AT v2;have hn:=CT h0;have hz:=AC q.num.natAbs;rw[decide_eq_false (by omega)]at hz;refine U9 _ _ _ _ _ _ false ⟨#[]⟩ ⟨#[]⟩ 2 w hE fun W hW=>?_;exact FK true 146 _ _ _ _ _ _ W hW (by omega) (by omega) (by omega) (by omega) v1 v2 (.inr ⟨rfl,hz⟩) fun h=>hl ⟨AV h.1 h.2.1,AV h.2.2.1 h.2.2.2⟩
def QL (p q:Rat):Int:=if p<q then -1 else if p=q then 0 else 1
theorem T0 (q:Rat):q.num<0↔q<0:=by
 rw[Rat.lt_iff]
 show _↔q.num*1<0*_
 omega
theorem GD (p q:Rat):(p-q).num<0↔p<q:=by
 rw[T0,Rat.sub_lt_iff,Rat.zero_add]
theorem FL (p q:Rat):p-q=0↔p=q:=by
 constructor
 · intro h;have e:p-q+q=0+q:=congrArg (·+q) h
   rwa [Rat.sub_add_cancel,Rat.zero_add]at e
 · intro h;rw[h];exact Rat.sub_self
theorem OF (g1 g2:Bool) (n1 d1 n2 d2:ByteArray) (r:Bool) (n d:ByteArray) (E c f:Int) (w:World) (hE:Env w)
 (hs:∀W,Env W->Calls Tryz.prog 108 #[.agg #[.bool g1,.string n1,.string d1],.agg #[.bool g2,.string n2,.string d2]] W fun e w'=>e=.returned (.tuple #[.agg #[.bool r,.string n,.string d],.int .i64 E])/\Below W.heap.size W w')
 (hk:(E≠0/\c=0/\f=E)∨(E=0/\r=true/\c=-1/\f=0)∨(E=0/\r=false/\(n.toList==[48])=true/\c=0/\f=0)∨(E=0/\r=false/\(n.toList==[48])=false/\c=1/\f=0)) :
 Calls Tryz.prog 57 #[.agg #[.bool g1,.string n1,.string d1],.agg #[.bool g2,.string n2,.string d2]] w fun e w'=>e=.returned (.tuple #[.int .i64 c,.int .i64 f])/\Below w.heap.size w w':=by
 have a:Hid (Below w.heap.size w ((w.alloc (.cells #[.bool g1,.string n1,.string d1] 40)).alloc (.cells #[.bool g2,.string n2,.string d2] 40))):=((Below.refl _ w).alloc (Nat.le_refl _) _).alloc (by simp) _;replace hE:=zh hE;replace hs:=zh hs
 rcases hk with⟨h1,rfl,rfl⟩ | ⟨rfl,rfl,rfl,rfl⟩ | ⟨rfl,rfl,h1,rfl,rfl⟩ | ⟨rfl,rfl,h1,rfl,rfl⟩
 rotate_left
 all_goals
  go_enter Tryz.func57,Tryz.ntmps57
  go_wp2_with fail
  refine(hs.out _ (hE.out.below a.out)).mono ?_;rintro e w1 ⟨rfl,aa⟩;have h:=zh (a.out.trans (aa.mono a.out.size));clear aa;go_wp2;go_ret2;exact⟨rfl,h.out.alloc h.out.size _⟩
theorem I7 (p q:Rat) (hp:ShortQ p) (hq:ShortQ q) (w:World) (hE:Env w) :
 Calls Tryz.prog 57 #[qv p,qv q] w fun e w'=>e=.returned (.tuple #[.int .i64 (QL p q),.int .i64 0])/\Below w.heap.size w w':=by
 refine OF _ _ _ _ _ _ _ _ _ 0 (QL p q) 0 w hE (fun W hW=>IS p q hp hq W hW) ?_;unfold QL;rw[AC]
 by_cases h1:p<q
 · exact .inr (.inl ⟨rfl,decide_eq_true ((GD p q).2 h1),if_pos h1,rfl⟩)
 · have hn:=(not_congr (GD p q)).2 h1;rw[if_neg h1]
   by_cases h2:p=q
   · refine .inr (.inr (.inl ⟨rfl,decide_eq_false hn,?_,if_pos h2,rfl⟩));rw[(FL p q).2 h2];rfl
   · refine .inr (.inr (.inr ⟨rfl,decide_eq_false hn,?_,if_neg h2,rfl⟩));have h3:=CT (fun h=>h2 ((FL p q).1 h));exact decide_eq_false (by omega)
end Nt
end
section
open Go.RowKit Go.Shelf
namespace Nt
theorem Ma (n:Int):Lib.trimPrefix (Lib.itoa n) [45]=Lib.decDigits n.natAbs:=by
 unfold Lib.itoa
 by_cases h:n<0
 · rw[if_pos h];simp[Lib.trimPrefix,Lib.hasPrefix]
 · rw [if_neg h];have e:n.toNat=n.natAbs:=by omega
   rw[e];unfold Lib.trimPrefix Lib.hasPrefix;rw[if_neg];intro hp;have hd:=A7 n.natAbs
   cases hl:Lib.decDigits n.natAbs with
   | nil=>exact AK _ hl
   | cons c r =>
     rw[hl]at hp hd;simp at hp;have:=(hd c (by simp)).1;rw[<-hp]at this;revert this;decide
theorem KJ (n:Int) (h0:-9223372036854775808<=n) (h1:n<=9223372036854775807) (w:World) (hE:Env w) :
 Calls Tryz.prog 141 #[.int .i64 n] w fun e w'=>e=.returned (.string (T (some n.natAbs)))/\Below w.heap.size w w':=by
 have hi:=Qb n h0 h1 w hE.tab;have ht:=fun W=>Tryz.strings_TrimPrefix ⟨(Lib.itoa n).toArray⟩ ⟨#[45]⟩ W
 have e:(⟨(Lib.trimPrefix (⟨(Lib.itoa n).toArray⟩:ByteArray).data.toList (⟨#[45]⟩:ByteArray).data.toList).toArray⟩:ByteArray)=T (some n.natAbs):=by
  show (⟨(Lib.trimPrefix (Lib.itoa n) [45]).toArray⟩:ByteArray)=_
  rw[Ma];rfl
 rw[e]at ht;clear e;go_enter Tryz.func141,Tryz.ntmps141
 go_wp2_with fail
 refine hi.mono ?_;rintro e w1 ⟨rfl,a⟩;replace a:=zh a
 go_wp2_with fail
 refine(ht _).mono ?_;rintro e w2 ⟨rfl,d⟩;subst d;go_wp2;go_ret;exact⟨rfl,a.out⟩
theorem AQ (w:World) (o:Obj):Below w.heap.size w (w.alloc o):=(Below.refl _ w).alloc (Nat.le_refl _) _
theorem GE {n:Int} (h0:-9223372036854775808<=n) (h1:n<=9223372036854775807):n.natAbs<L1:=by
 have h:10^20<=L1:=Nat.pow_le_pow_right (by omega) (by rw[DO];omega);omega
theorem Wr (m n:Int) (af:-9223372036854775808<=m) (ag:m<=9223372036854775807) (ah:-9223372036854775808<=n) (ai:n<=9223372036854775807) (h0:n≠0) (r:Bool) (x y:ByteArray) (w:World) (hE:Env w)
 (hl:∀W,Env W->Calls Tryz.prog 115 #[.bool (!(decide (m<0)==decide (n<0))),.string (T (some m.natAbs)),.string (T (some n.natAbs))] W fun e w'=>e=.returned (.tuple #[.agg #[.bool r,.string x,.string y],.int .i64 0])/\Below W.heap.size W w') :
 Calls Tryz.prog 96 #[.int .i64 m,.int .i64 n] w fun e w'=>e=.returned (.tuple #[.agg #[.bool r,.string x,.string y],.int .i64 0])/\Below w.heap.size w w':=by
 have hz:(n==0)=false:=by rw[beq_eq_false_iff_ne];exact h0
 have c1:=fun W (h:Env W)=>KJ m af ag W h;have c2:=fun W (h:Env W)=>KJ n ah ai W h;replace hE:=zh hE;replace hl:=zh hl;replace h0:=zh h0;clear af ag ah ai;go_enter Tryz.func96,Tryz.ntmps96
 go_wp2_with fail
 refine(c1 _ (hE.out.below (AQ _ _))).mono ?_;rintro e w1 ⟨rfl,aa⟩;have q1:=(B3.new w false ⟨#[]⟩ ⟨#[]⟩).below aa;have a:=zh ((AQ w (.cells #[.bool false,.string ⟨#[]⟩,.string ⟨#[]⟩] 40)).trans (aa.mono (by simp)));clear aa;replace q1:=zh q1
 go_wp2_with fail
 refine(c2 _ (hE.out.below a.out)).mono ?_;rintro e w2 ⟨rfl,ad⟩;have q2:=q1.out.below ad;have d:=zh (a.out.trans (ad.mono a.out.size));clear ad;replace q2:=zh q2
 go_wp2_with fail
 refine(hl.out _ (hE.out.below d.out)).mono ?_;rintro e w3 ⟨rfl,ae⟩;have q3:=q2.out.below ae;have aj:=zh (d.out.trans (ae.mono d.out.size));obtain⟨d1,d2,d3,d4,d5,d6⟩:=q3.facts;have ak:=q3.lt;clear ae;replace q3:=zh q3;go_wp2;refine bodyPost_ret (v:=.tuple #[.agg #[.bool r,.string x,.string y],.int .i64 0]) (by simp[results,Tryz.results96,go_sem,d1,d2,d3]) rfl ⟨rfl,?_⟩
 repeat refine Below.setCell ?_ (by simp only[];omega) _
 exact aj.out
def ofQ (m n:Int):Rat:=mkRat (sg (!(decide (m<0)==decide (n<0))) m.natAbs) n.natAbs
theorem OG (m n:Int) (a:-9223372036854775808<=m) (d:m<=9223372036854775807) (h:-9223372036854775808<=n) (aa:n<=9223372036854775807) (h0:n≠0) (w:World) (hE:Env w) :
 Calls Tryz.prog 96 #[.int .i64 m,.int .i64 n] w fun e w'=>e=.returned (.tuple #[qv (ofQ m n),.int .i64 0])/\Below w.heap.size w w' :=
 Wr m n a d h aa h0 _ _ _ w hE fun W hW=>Dx _ m.natAbs n.natAbs W hW (AH (GE a d)) (AH (GE h aa)) (by omega)
end Nt
end
section
open Go.RowKit Go.Shelf
namespace Nt
def REnv (w:World):Prop:=Env w/\∃m:Int,w.cell? ⟨5,0,none⟩=some (.int .i64 m)
theorem REnv.lt {w:World} (h:REnv w):5<w.heap.size:=by
 obtain⟨_,m,hm⟩:=h;exact World.block_lt_of_cell? w _ hm
theorem REnv.below {w w':World} (h:REnv w) (hb:Below w.heap.size w w'):REnv w':=by
 have hl:=h.lt;obtain⟨h1,m,hm⟩:=h;exact⟨h1.below hb,m,(hb.cell (p:=⟨5,0,none⟩) hl).trans hm⟩
end Nt
end
section
open Go.ChangeShapes Go.WideShapes Go.ChangeAt Go.RowKit Go.Shelf Go.Joins
namespace Nt
theorem Vd {k:IntKind} {n:Int} (h:(Lit.int k n).wf=true):k.min<=n/\n<=k.max:=by simpa [Lit.wf] using h
section
variable {H:Type} {enc:TypeId×Value->H} {w:World} {base:Nat} {spare:Nat->Bool} {held:Bool}
theorem T1:Tryz.prog.cellsOf 40=3:=by kernel_rfl
end
end Nt
end
section
open Go.ChangeShapes Go.WideShapes Go.ChangeAt Go.RowKit Go.Shelf Go.Joins Go.Deep
namespace Ci
open Nt
def D9 (x:Int):Prop:=-9223372036854775808<=x/\x<=9223372036854775807
def lkD {H:Type} (x:Lk):DataW H:=.agg [.lit (.int .i64 x.1),.lit (.int .i64 x.2.1),.agg [.lit (.bool x.2.2.1),.lit (.string x.2.2.2.1.data.toList),.lit (.string x.2.2.2.2.data.toList)]]
def QM {H:Type} (x:ByteArray):DataW H:=.lit (.string x.data.toList)
def T3 {H:Type} (x:Int):DataW H:=.lit (.int .i64 x)
def I8 {H α:Type} (f:α->DataW H) (l:List α) (d:DataW H):Prop:=(d=.nil/\l=[])∨∃rest,d=.slice (l.map f) rest
section
variable {H:Type} {enc:TypeId×Value->H} {w:World} {base:Nat} {held:Bool}
theorem OH {b o k:Nat}:(⟨b,o,none⟩:Addr).add k=⟨b,o+k,none⟩:=by unfold Addr.add;split<;>simp_all
theorem i64_in {x:Int} (h:(Lit.int .i64 x).wf=true):D9 x:=by
 have:=Vd h;exact this
theorem Hz {fuel:Nat} {cs:List Value} {x:DataW H×List MemPlace} (h:DataW.trod enc Tryz.prog w base (fun _=>true) held fuel 26 cs=some x) :
 ∃(A:Option Addr) (cap:Nat) (l:List Int),cs=[.slice A l.length cap]/\I8 T3 l x.1/\InInt w A l/\∀y,y∈l->D9 y:=by
 rcases open_slice1 Tryz.underlying26 (by kernel_rfl) h with⟨h1,h2⟩ | ⟨a,len,cap,m,n,V,D,Pl,ae,hb,hl,hm,ad,hx,hi⟩
 · exact⟨none,0,[],h1,.inl ⟨by rw[h2],rfl⟩,fun h=>absurd h (by simp),fun y hy=>by cases hy⟩
 · simp only[if_true]at ad;subst ad
   have each:∀i,i<m->∃y:Int,V i=.int .i64 y/\D i=T3 y/\D9 y:=by
    intro i af;obtain⟨y,e1,e2,e3⟩:=DataW.trod_int Tryz.underlying3 (hi i af).2;exact⟨y,by simpa using e1,congrArg Prod.fst e2,i64_in e3⟩
   obtain⟨Y,hY⟩:=choose_lt each;refine⟨some a,m,(List.range len).map Y,by simpa using ae,.inr ⟨_,by rw[hx,List.map_map];simp only[];congr 1;exact List.map_congr_left fun i d=>(hY i (by have:=List.mem_range.1 d;omega)).2.1⟩,fun h0=>?_,fun y hy=>?_⟩
   · simp only[List.length_map,List.length_range]at h0;have aa:=(hi 0 (by omega)).1;have ag:=World.cell?_spot aa;obtain⟨b,o,s⟩:=a;have hs:s=none:=by simpa [Addr.add] using ag
     subst hs;refine⟨b,o,rfl,?_,fun j hj=>?_⟩
     · have:=World.block_lt_of_cell? w _ aa
       simpa [OH] using this
     · have ah:j<len:=by simpa using hj
       have hc:=(hi j (by omega)).1;rw[OH,(hY j (by omega)).1]at hc;simp only[List.getElem_map,List.getElem_range];exact hc
   · obtain⟨i,d,rfl⟩:=List.mem_map.1 hy;exact(hY i (by have:=List.mem_range.1 d;omega)).2.2
theorem Mb {fuel:Nat} {cs:List Value} {x:DataW H×List MemPlace} (h:DataW.trod enc Tryz.prog w base (fun _=>true) held fuel 22 cs=some x) :
 ∃(A:Option Addr) (cap:Nat) (l:List ByteArray),cs=[.slice A l.length cap]/\I8 QM l x.1/\InStr w A l:=by
 rcases open_slice1 Tryz.underlying22 (by kernel_rfl) h with⟨h1,h2⟩ | ⟨a,len,cap,m,n,V,D,Pl,ad,hb,hl,hm,aa,hx,hi⟩
 · exact⟨none,0,[],h1,.inl ⟨by rw[h2],rfl⟩,fun h=>absurd h (by simp)⟩
 · simp only[if_true]at aa;subst aa
   have each:∀i,i<m->∃y:ByteArray,V i=.string y/\D i=QM y:=by
    intro i af;obtain⟨y,e1,e2,_⟩:=DataW.trod_string Tryz.underlying9 (hi i af).2;exact⟨y,by simpa using e1,congrArg Prod.fst e2⟩
   obtain⟨Y,hY⟩:=choose_lt each;refine⟨some a,m,(List.range len).map Y,by simpa using ad,.inr ⟨_,by rw[hx,List.map_map];simp only[];congr 1;exact List.map_congr_left fun i ae=>(hY i (by have:=List.mem_range.1 ae;omega)).2⟩,fun h0=>?_⟩;simp only[List.length_map,List.length_range]at h0;have d:=(hi 0 (by omega)).1;have ag:=World.cell?_spot d;obtain⟨b,o,s⟩:=a;have hs:s=none:=by simpa [Addr.add] using ag
   subst hs;refine⟨b,o,rfl,?_,fun j hj=>?_⟩
   · have:=World.block_lt_of_cell? w _ d
     simpa [OH] using this
   · have ah:j<len:=by simpa using hj
     have hc:=(hi j (by omega)).1;rw[OH,(hY j (by omega)).1]at hc;simp only[List.getElem_map,List.getElem_range];exact hc
theorem QN:Tryz.prog.cellsOf 59=5:=by kernel_rfl
theorem IT {fuel:Nat} {cs:List Value} {x:DataW H×List MemPlace} (h:DataW.trod enc Tryz.prog w base (fun _=>true) held fuel 23 cs=some x) :
 ∃(A:Option Addr) (cap:Nat) (l:List Lk),cs=[.slice A l.length cap]/\I8 lkD l x.1/\InLk w A l/\(∀y,y∈l->D9 y.1/\D9 y.2.1)/\l.length<=cap:=by
 rcases open_slice Tryz.underlying23 h with⟨h1,h2⟩ | ⟨a,len,cap,m,n,D,Pl,ag,hb,hl,hm,ae,hx,hi⟩
 · exact⟨none,0,[],h1,.inl ⟨by rw[h2],rfl⟩,fun h=>absurd h (by simp),(fun y hy=>by cases hy),Nat.le_refl _⟩
 · simp only[if_true]at ae;subst ae
   have each:∀i,i<m->∃y:Lk,D i=lkD y/\(w.cell? (a.add (i*5))=some (.int .i64 y.1)/\w.cell? (a.add (i*5+1))=some (.int .i64 y.2.1)/\w.cell? (a.add (i*5+2))=some (.bool y.2.2.1)/\w.cell? (a.add (i*5+3))=some (.string y.2.2.2.1)/\w.cell? (a.add (i*5+4))=some (.string y.2.2.2.2))/\D9 y.1/\D9 y.2.1:=by
    intro i ah;obtain⟨cs',hc,aj⟩:=hi i ah;rw[QN]at hc;obtain⟨y0,y1,y2,n',hy,_,t0,t1,t2⟩:=trod_struct3 Tryz.underlying59 aj;obtain⟨z0,z1,z2,n'',hz,_,u0,u1,u2⟩:=trod_struct3 Tryz.underlying40 t2;obtain⟨_,af,d⟩:=World.cells?_some hc
    match cs',af with
    | [c0,c1,c2,c3,c4],_ =>
      have g0:=d 0 (by omega);have g1:=d 1 (by omega);have g2:=d 2 (by omega);have g3:=d 3 (by omega);have g4:=d 4 (by omega);rw[Go.Deep.add_add]at g0 g1 g2 g3 g4;obtain⟨a0,e0,k0,f0⟩:=DataW.trod_int Tryz.underlying3 t0;obtain⟨a1,e1,k1,f1⟩:=DataW.trod_int Tryz.underlying3 t1;obtain⟨a2,e2,k2⟩:=DataW.trod_bool Tryz.underlying4 u0;obtain⟨a3,e3,k3,_⟩:=DataW.trod_string Tryz.underlying9 u1;obtain⟨a4,e4,k4,_⟩:=DataW.trod_string Tryz.underlying9 u2;simp only[Prod.mk.injEq]at hy hz;have s1:Tryz.prog.cellsOf 3=1:=by kernel_rfl
      have s2:Tryz.prog.cellsOf 4=1:=by kernel_rfl
      have s3:Tryz.prog.cellsOf 9=1:=by kernel_rfl
      have s4:Tryz.prog.cellsOf 40=3:=by kernel_rfl
      have b0:c0=.int .i64 a0:=by simpa [s1,s2,s3,s4] using e0
      have b1:c1=.int .i64 a1:=by simpa [s1,s2,s3,s4] using e1
      have b2:c2=.bool a2:=by simpa [s1,s2,s3,s4] using e2
      have b3:c3=.string a3:=by simpa [s1,s2,s3,s4] using e3
      have b4:c4=.string a4:=by simpa [s1,s2,s3,s4] using e4
      subst b0 b1 b2 b3 b4;refine⟨(a0,a1,a2,a3,a4),?_,⟨by simpa using g0,by simpa using g1,by simpa using g2,by simpa using g3,by simpa using g4⟩,i64_in f0,i64_in f1⟩;rw[hy.1,k0,k1,hz,k2,k3,k4];rfl
   obtain⟨Y,hY⟩:=choose_lt each;refine⟨some a,m,(List.range len).map Y,by simpa using ag,.inr ⟨_,by rw[hx,List.map_map];simp only[];congr 1;exact List.map_congr_left fun i aa=>(hY i (by have:=List.mem_range.1 aa;omega)).1⟩,fun h0=>?_,fun y hy=>?_,by rw[List.length_map,List.length_range];omega⟩
   · simp only[List.length_map,List.length_range]at h0;have ad:=(hY 0 (by omega)).2.1.1;have ai:=World.cell?_spot ad;obtain⟨b,o,s⟩:=a;have hs:s=none:=by simpa [Addr.add] using ai
     subst hs;refine⟨b,o,rfl,?_,fun j hj=>?_⟩
     · have:=World.block_lt_of_cell? w _ ad
       simpa [OH] using this
     · have ak:j<len:=by simpa using hj
       have hc:=(hY j (by omega)).2.1;simp only[OH]at hc;simp only[List.getElem_map,List.getElem_range];exact hc
   · obtain⟨i,aa,rfl⟩:=List.mem_map.1 hy;exact(hY i (by have:=List.mem_range.1 aa;omega)).2.2
theorem QO {fuel:Nat} {cs:List Value} {x:DataW H×List MemPlace} (h:DataW.trod enc Tryz.prog w base (fun _=>true) held fuel 23 cs=some x) :
 ∃(A:Option Addr) (cap:Nat) (l:List Lk),cs=[.slice A l.length cap]/\I8 lkD l x.1/\InLk w A l/\∀y,y∈l->D9 y.1/\D9 y.2.1:=by
 obtain⟨A,cap,l,h1,h2,h3,h4,_⟩:=IT h;exact⟨A,cap,l,h1,h2,h3,h4⟩
end
end Ci
end
section
open Go.RowKit Go.Shelf
namespace Ci
open Nt
theorem QP (s:ByteArray) (w:World) (hs:s.size<=9223372036854775807) :
 Calls Tryz.prog 64 #[.string s] w fun e w'=>e=.returned (.bool (Bj s))/\w'=w:=by
 have HB:=zh (fun(k:Nat) (h:k<s.size) (hb:¬CS k s[k].toNat)=>O2 (s:=s) h hb);have HA:=zh (O3 (s:=s));go_enter Tryz.func64,Tryz.ntmps64;go_wp2
 go_loop [8] (fun i=>∃k:Nat,k<=s.size/\i=.int .i64 k/\Hid (∀i (h:i<s.size),i<k->CS i s[i].toNat)) (fun i=>s.size-(intOf i).toNat)
 case atStart=>exact⟨0,Nat.zero_le _,rfl,fun i _ h=>absurd h (Nat.not_lt_zero _)⟩
 case round =>
  obtain⟨k,hk,rfl,hI⟩:=hrel
  by_cases hlt:k<s.size
  · have hc:s[k].toNat<=255:=by have:=s[k].toNat_lt;omega
    have i0:(0:Int)<=(k:Int):=by omega
    have i1:(k:Int)<(s.size:Int):=by omega
    have HN:Hid (CS k s[k].toNat->∀i (h:i<s.size),i<k+1->CS i s[i].toNat):=fun h i hi h2=>by
     by_cases e:i=k
     · subst e;exact h
     · exact hI.out i hi (by omega)
    have HB2:=zh (HB.out k hlt);clear hI
    by_cases e0:k=0
    · have b0:((k:Int)==0)=true:=by rw[beq_iff_eq];omega
      have b0n:((k:Int) != 0)=false:=by rw[bne_eq_false_iff_eq];omega
      have b3:(k==0)=true:=by rw[beq_iff_eq];omega
      replace e0:=zh e0;have a:(s[k].toNat<=47/\0<=s[k].toNat)∨(48<=s[k].toNat/\s[k].toNat<=57)∨(58<=s[k].toNat/\s[k].toNat<=64)∨(65<=s[k].toNat/\s[k].toNat<=90)∨(91<=s[k].toNat/\s[k].toNat<=94)∨(95<=s[k].toNat/\s[k].toNat<=95)∨(96<=s[k].toNat/\s[k].toNat<=96)∨(97<=s[k].toNat/\s[k].toNat<=122)∨(123<=s[k].toNat/\s[k].toNat<=255):=by omega
      rcases a with⟨g1,g2⟩ | ⟨g1,g2⟩ | ⟨g1,g2⟩ | ⟨g1,g2⟩ | ⟨g1,g2⟩ | ⟨g1,g2⟩ | ⟨g1,g2⟩ | ⟨g1,g2⟩ | ⟨g1,g2⟩
      · have b1:((s[k].toNat:Int) != 95)=true:=by rw[bne_iff_ne];omega
        have b2:((s[k].toNat:Int)==95)=false:=by rw[beq_eq_false_iff_ne];omega
        have HR:Hid (Bj s=false):=HB2.out (by have:=e0.out;unfold CS;omega);clear HN HB2;go_wp2;go_ret;exact⟨Ak HR.out.symm,rfl⟩
      · have b1:((s[k].toNat:Int) != 95)=true:=by rw[bne_iff_ne];omega
        have b2:((s[k].toNat:Int)==95)=false:=by rw[beq_eq_false_iff_ne];omega
        have HR:Hid (Bj s=false):=HB2.out (by have:=e0.out;unfold CS;omega);clear HN HB2;go_wp2;go_ret;exact⟨Ak HR.out.symm,rfl⟩
      · have b1:((s[k].toNat:Int) != 95)=true:=by rw[bne_iff_ne];omega
        have b2:((s[k].toNat:Int)==95)=false:=by rw[beq_eq_false_iff_ne];omega
        have HR:Hid (Bj s=false):=HB2.out (by have:=e0.out;unfold CS;omega);clear HN HB2;go_wp2;go_ret;exact⟨Ak HR.out.symm,rfl⟩
      · have b1:((s[k].toNat:Int) != 95)=true:=by rw[bne_iff_ne];omega
        have b2:((s[k].toNat:Int)==95)=false:=by rw[beq_eq_false_iff_ne];omega
        have HR:=zh (HN.out (by have:=e0.out;unfold CS;omega));clear HN HB2;go_wp2;go_round
        case rel=>exact⟨k+1,by omega,by go_num,HR⟩
        case measure=>simp[intOf];omega
      · have b1:((s[k].toNat:Int) != 95)=true:=by rw[bne_iff_ne];omega
        have b2:((s[k].toNat:Int)==95)=false:=by rw[beq_eq_false_iff_ne];omega
        have c1:decide ((s[k].toNat:Int)<=90)=false:=by rw[decide_eq_false_iff_not];omega
        have d1:decide (s[k].toNat<=90)=false:=by rw[decide_eq_false_iff_not];omega
        have n1:¬((s[k].toNat:Int)<=90):=by omega
        have HR:Hid (Bj s=false):=HB2.out (by have:=e0.out;unfold CS;omega);clear HN HB2;go_wp2;go_ret;exact⟨Ak HR.out.symm,rfl⟩
      · have b1:((s[k].toNat:Int) != 95)=false:=by rw[bne_eq_false_iff_eq];omega
        have b2:((s[k].toNat:Int)==95)=true:=by rw[beq_iff_eq];omega
        have c1:decide ((s[k].toNat:Int)<=90)=false:=by rw[decide_eq_false_iff_not];omega
        have d1:decide (s[k].toNat<=90)=false:=by rw[decide_eq_false_iff_not];omega
        have n1:¬((s[k].toNat:Int)<=90):=by omega
        have HR:Hid (Bj s=false):=HB2.out (by have:=e0.out;unfold CS;omega);clear HN HB2;go_wp2;go_ret;exact⟨Ak HR.out.symm,rfl⟩
      · have b1:((s[k].toNat:Int) != 95)=true:=by rw[bne_iff_ne];omega
        have b2:((s[k].toNat:Int)==95)=false:=by rw[beq_eq_false_iff_ne];omega
        have c1:decide ((s[k].toNat:Int)<=90)=false:=by rw[decide_eq_false_iff_not];omega
        have d1:decide (s[k].toNat<=90)=false:=by rw[decide_eq_false_iff_not];omega
        have n1:¬((s[k].toNat:Int)<=90):=by omega
        have HR:Hid (Bj s=false):=HB2.out (by have:=e0.out;unfold CS;omega);clear HN HB2;go_wp2;go_ret;exact⟨Ak HR.out.symm,rfl⟩
      · have b1:((s[k].toNat:Int) != 95)=true:=by rw[bne_iff_ne];omega
        have b2:((s[k].toNat:Int)==95)=false:=by rw[beq_eq_false_iff_ne];omega
        have c1:decide ((s[k].toNat:Int)<=90)=false:=by rw[decide_eq_false_iff_not];omega
        have d1:decide (s[k].toNat<=90)=false:=by rw[decide_eq_false_iff_not];omega
        have n1:¬((s[k].toNat:Int)<=90):=by omega
        have HR:=zh (HN.out (by have:=e0.out;unfold CS;omega));clear HN HB2;go_wp2;go_round
        case rel=>exact⟨k+1,by omega,by go_num,HR⟩
        case measure=>simp[intOf];omega
      · have b1:((s[k].toNat:Int) != 95)=true:=by rw[bne_iff_ne];omega
        have b2:((s[k].toNat:Int)==95)=false:=by rw[beq_eq_false_iff_ne];omega
        have c0:decide ((s[k].toNat:Int)<=122)=false:=by rw[decide_eq_false_iff_not];omega
        have d0:decide (s[k].toNat<=122)=false:=by rw[decide_eq_false_iff_not];omega
        have n0:¬((s[k].toNat:Int)<=122):=by omega
        have c1:decide ((s[k].toNat:Int)<=90)=false:=by rw[decide_eq_false_iff_not];omega
        have d1:decide (s[k].toNat<=90)=false:=by rw[decide_eq_false_iff_not];omega
        have n1:¬((s[k].toNat:Int)<=90):=by omega
        have HR:Hid (Bj s=false):=HB2.out (by have:=e0.out;unfold CS;omega);clear HN HB2;go_wp2;go_ret;exact⟨Ak HR.out.symm,rfl⟩
    · have b0:((k:Int)==0)=false:=by rw[beq_eq_false_iff_ne];omega
      have b0n:((k:Int) != 0)=true:=by rw[bne_iff_ne];omega
      have b3:(k==0)=false:=by rw[beq_eq_false_iff_ne];omega
      have a:(s[k].toNat<=47/\0<=s[k].toNat)∨(48<=s[k].toNat/\s[k].toNat<=57)∨(58<=s[k].toNat/\s[k].toNat<=64)∨(65<=s[k].toNat/\s[k].toNat<=90)∨(91<=s[k].toNat/\s[k].toNat<=94)∨(95<=s[k].toNat/\s[k].toNat<=95)∨(96<=s[k].toNat/\s[k].toNat<=96)∨(97<=s[k].toNat/\s[k].toNat<=122)∨(123<=s[k].toNat/\s[k].toNat<=255):=by omega
      rcases a with⟨g1,g2⟩ | ⟨g1,g2⟩ | ⟨g1,g2⟩ | ⟨g1,g2⟩ | ⟨g1,g2⟩ | ⟨g1,g2⟩ | ⟨g1,g2⟩ | ⟨g1,g2⟩ | ⟨g1,g2⟩
      · have b1:((s[k].toNat:Int) != 95)=true:=by rw[bne_iff_ne];omega
        have b2:((s[k].toNat:Int)==95)=false:=by rw[beq_eq_false_iff_ne];omega
        have HR:Hid (Bj s=false):=HB2.out (by unfold CS;omega);clear HN HB2;go_wp2;go_ret;exact⟨Ak HR.out.symm,rfl⟩
      · have b1:((s[k].toNat:Int) != 95)=true:=by rw[bne_iff_ne];omega
        have b2:((s[k].toNat:Int)==95)=false:=by rw[beq_eq_false_iff_ne];omega
        have HR:=zh (HN.out (by unfold CS;omega));clear HN HB2;go_wp2;go_round
        case rel=>exact⟨k+1,by omega,by go_num,HR⟩
        case measure=>simp[intOf];omega
      · have b1:((s[k].toNat:Int) != 95)=true:=by rw[bne_iff_ne];omega
        have b2:((s[k].toNat:Int)==95)=false:=by rw[beq_eq_false_iff_ne];omega
        have HR:Hid (Bj s=false):=HB2.out (by unfold CS;omega);clear HN HB2;go_wp2;go_ret;exact⟨Ak HR.out.symm,rfl⟩
      · have b1:((s[k].toNat:Int) != 95)=true:=by rw[bne_iff_ne];omega
        have b2:((s[k].toNat:Int)==95)=false:=by rw[beq_eq_false_iff_ne];omega
        have HR:=zh (HN.out (by unfold CS;omega));clear HN HB2;go_wp2;go_round
        case rel=>exact⟨k+1,by omega,by go_num,HR⟩
        case measure=>simp[intOf];omega
      · have b1:((s[k].toNat:Int) != 95)=true:=by rw[bne_iff_ne];omega
        have b2:((s[k].toNat:Int)==95)=false:=by rw[beq_eq_false_iff_ne];omega
        have c1:decide ((s[k].toNat:Int)<=90)=false:=by rw[decide_eq_false_iff_not];omega
        have d1:decide (s[k].toNat<=90)=false:=by rw[decide_eq_false_iff_not];omega
        have n1:¬((s[k].toNat:Int)<=90):=by omega
        have HR:Hid (Bj s=false):=HB2.out (by unfold CS;omega);clear HN HB2;go_wp2;go_ret;exact⟨Ak HR.out.symm,rfl⟩
      · have b1:((s[k].toNat:Int) != 95)=false:=by rw[bne_eq_false_iff_eq];omega
        have b2:((s[k].toNat:Int)==95)=true:=by rw[beq_iff_eq];omega
        have c1:decide ((s[k].toNat:Int)<=90)=false:=by rw[decide_eq_false_iff_not];omega
        have d1:decide (s[k].toNat<=90)=false:=by rw[decide_eq_false_iff_not];omega
        have n1:¬((s[k].toNat:Int)<=90):=by omega
        have HR:=zh (HN.out (by unfold CS;omega));clear HN HB2;go_wp2;go_round
        case rel=>exact⟨k+1,by omega,by go_num,HR⟩
        case measure=>simp[intOf];omega
      · have b1:((s[k].toNat:Int) != 95)=true:=by rw[bne_iff_ne];omega
        have b2:((s[k].toNat:Int)==95)=false:=by rw[beq_eq_false_iff_ne];omega
        have c1:decide ((s[k].toNat:Int)<=90)=false:=by rw[decide_eq_false_iff_not];omega
        have d1:decide (s[k].toNat<=90)=false:=by rw[decide_eq_false_iff_not];omega
        have n1:¬((s[k].toNat:Int)<=90):=by omega
        have HR:Hid (Bj s=false):=HB2.out (by unfold CS;omega);clear HN HB2;go_wp2;go_ret;exact⟨Ak HR.out.symm,rfl⟩
      · have b1:((s[k].toNat:Int) != 95)=true:=by rw[bne_iff_ne];omega
        have b2:((s[k].toNat:Int)==95)=false:=by rw[beq_eq_false_iff_ne];omega
        have c1:decide ((s[k].toNat:Int)<=90)=false:=by rw[decide_eq_false_iff_not];omega
        have d1:decide (s[k].toNat<=90)=false:=by rw[decide_eq_false_iff_not];omega
        have n1:¬((s[k].toNat:Int)<=90):=by omega
        have HR:=zh (HN.out (by unfold CS;omega));clear HN HB2;go_wp2;go_round
        case rel=>exact⟨k+1,by omega,by go_num,HR⟩
        case measure=>simp[intOf];omega
      · have b1:((s[k].toNat:Int) != 95)=true:=by rw[bne_iff_ne];omega
        have b2:((s[k].toNat:Int)==95)=false:=by rw[beq_eq_false_iff_ne];omega
        have c0:decide ((s[k].toNat:Int)<=122)=false:=by rw[decide_eq_false_iff_not];omega
        have d0:decide (s[k].toNat<=122)=false:=by rw[decide_eq_false_iff_not];omega
        have n0:¬((s[k].toNat:Int)<=122):=by omega
        have c1:decide ((s[k].toNat:Int)<=90)=false:=by rw[decide_eq_false_iff_not];omega
        have d1:decide (s[k].toNat<=90)=false:=by rw[decide_eq_false_iff_not];omega
        have n1:¬((s[k].toNat:Int)<=90):=by omega
        have HR:Hid (Bj s=false):=HB2.out (by unfold CS;omega);clear HN HB2;go_wp2;go_ret;exact⟨Ak HR.out.symm,rfl⟩
  · obtain rfl:k=s.size:=by omega
    have HE:Hid (Bj s=(decide (0<s.size)&&decide (s.size<=24))):=HA.out fun i h=>hI.out i h h
    have q0:s.toList.isEmpty=decide (s.size=0):=by
     rw[Lib.toList_data,Lib.size_eq]
     cases s.data.toList<;>simp
    clear hI
    by_cases h0:s.size=0
    · have q1:s.toList=[]:=by simpa [h0] using q0
      have q2:(!s.toList.isEmpty)=false:=by rw[q0,decide_eq_true h0];rfl
      clear q0;go_wp2;go_ret;exact⟨Ak (by rw[HE.out,decide_eq_false (by omega)];rfl),rfl⟩
    · have q2:(!s.toList.isEmpty)=true:=by rw[q0,decide_eq_false h0];rfl
      have q1:¬s.toList=[]:=fun e=>by rw[e]at q0;rw[decide_eq_false h0]at q0;cases q0
      clear q0
      by_cases h24:s.size<=24
      · go_wp2;go_ret;exact⟨Ak (by rw[HE.out,decide_eq_true (by omega:0<s.size),decide_eq_true h24,decide_eq_true (by omega:(s.size:Int)<=24)];rfl),rfl⟩
      · go_wp2;go_ret;exact⟨Ak (by rw[HE.out,decide_eq_true (by omega:0<s.size),decide_eq_false h24,decide_eq_false (by omega:¬(s.size:Int)<=24)];rfl),rfl⟩
theorem Mc (s:ByteArray) (w:World) (hs:s.size<=9223372036854775807) :
 Calls Tryz.prog 64 #[.string s] w fun e w'=>e=.returned (.bool (Bj s))/\Below w.heap.size w w' :=
 (QP s w hs).mono fun e w' h=>by
   obtain⟨rfl,rfl⟩:=h;exact⟨rfl,Below.refl _ _⟩
end Ci
end
section
open Go.RowKit Go.Shelf
namespace Ci
open Nt
theorem VS (b:Nat):(6000:Int)%(b:Int)=((6000%b:Nat):Int):=(Int.natCast_emod 6000 b).symm
theorem Ve {s:ByteArray} (h:isN s=true) (h4:s.size<=4):val s<10000:=by
 have h1:=DC (Hu h);have h2:s.data.toList.length<=4:=by have:=Lib.size_eq s;omega
 have h3:10^s.data.toList.length<=10^4:=Nat.pow_le_pow_right (by omega) h2
 show A5 s.data.toList<10000
 omega
theorem UA (s:ByteArray) (h:isN s=true) (h4:s.size<=4) (W:World):Calls Tryz.prog 116 #[.string s] W fun e w'=>e=.returned (.tuple #[.int .i64 (val s:Int),.nilIface])/\Below W.heap.size W w':=by
 have ha:=Qy (val s);rw[N8 h]at ha;have hv:val s<10000:=Ve h h4;rw[if_pos (by omega)]at ha;refine(Tryz.strconv_Atoi_ok s (by omega) _ ha W).mono ?_;rintro e w' ⟨rfl,rfl | ⟨t,rfl⟩⟩
 · exact⟨rfl,Below.refl _ _⟩
 · exact⟨rfl,Go.Joins.below_bytesWorld _ _ _ _ (Nat.le_refl _)⟩
theorem KK {g:Bool} {n d:ByteArray} (h:Ax g n d=true):isN n=true/\isN d=true/\val d≠0:=by
 unfold Ax at h;simp only[Bool.and_eq_true]at h;obtain⟨h1,h2,h3,_⟩:=h;exact⟨h1,h2,by simpa using h3⟩
theorem IU {g:Bool} {n d:ByteArray} (h:Ax g n d=false∨g=true∨4<n.size∨4<d.size):unitsN (g,n,d)=0:=if_pos h
theorem Md {g:Bool} {n d:ByteArray} (h1:Ax g n d=true) (h2:g=false) (h3:n.size<=4) (h4:d.size<=4):unitsN (g,n,d)=if val d<val n∨6000%val d≠0 then 0 else val n*(6000/val d):=by
 unfold unitsN;rw[if_neg];rintro(h | h | h | h)
 · rw[h1]at h;cases h
 · rw[h2]at h;cases h
 · simp only[]at h;omega
 · simp only[]at h;omega
theorem OI (g : Bool) (n d : ByteArray) (w : World) (hE : Env w) (hn:n.size<=140737488355328) (hd:d.size<=140737488355328) :
 Calls Tryz.prog 66 #[.agg #[.bool g,.string n,.string d]] w fun e w'=>e=.returned (.int .i64 (unitsN (g,n,d):Int))/\Below w.heap.size w w':=by
 have hv:Hid (∀W,Env W->Calls Tryz.prog 83 #[.agg #[.bool g,.string n,.string d]] W fun e w'=>e=.returned (.bool (Ax g n d))/\Below W.heap.size W w'):=fun W hW=>AO g n d W hW hn hd;replace hE:=zh hE;have aa:Hid (Below w.heap.size w (w.alloc (.cells #[.bool g,.string n,.string d] 40))):=(Below.refl _ w).alloc (Nat.le_refl _) _;have aj:Hid (B3 (w.alloc (.cells #[.bool g,.string n,.string d] 40)) w.heap.size g n d):=B3.new w g n d
 cases h1:Ax g n d with
 | false =>
   have HG:=zh (IU (g:=g) (n:=n) (d:=d) (.inl h1));rw[h1]at hv;clear h1;go_enter Tryz.func66,Tryz.ntmps66
   go_wp2_with fail
   refine(hv.out _ (hE.out.below aa.out)).mono ?_;rintro e w1 ⟨rfl,hb⟩;have ad:=zh (aa.out.trans (hb.mono aa.out.size));clear hb;go_wp2;go_ret;exact⟨by rw[HG.out];rfl,ad.out⟩
 | true =>
   rw[h1]at hv;obtain⟨q1,q2,q3⟩:=KK h1
   by_cases ah:g=true∨4<n.size∨4<d.size
   · have HG:=zh (IU (g:=g) (n:=n) (d:=d) (.inr ah));clear h1 q1 q2 q3;go_enter Tryz.func66,Tryz.ntmps66
     go_wp2_with fail
     refine(hv.out _ (hE.out.below aa.out)).mono ?_;rintro e w1 ⟨rfl,hb⟩;have ad:=zh (aa.out.trans (hb.mono aa.out.size));obtain⟨f1,f2,f3,_,_,_⟩:=(aj.out.below hb).facts;have f4:=(aj.out.below hb).lt;clear hb
     have ak:g=true∨(g=false/\4<n.size)∨(g=false/\n.size<=4/\4<d.size):=by
      cases g
      · rcases ah with h | h | h
        · cases h
        · exact .inr (.inl ⟨rfl,h⟩)
        · by_cases c:4<n.size
          · exact .inr (.inl ⟨rfl,c⟩)
          · exact .inr (.inr ⟨rfl,by omega,h⟩)
      · exact .inl rfl
     clear ah
     rcases ak with rfl | ⟨rfl,z1⟩ | ⟨rfl,z1,z2⟩
     all_goals (
      go_wp2;go_ret;exact⟨by rw[HG.out];rfl,ad.out⟩)
   · have z0:g=false:=by
      cases g
      · rfl
      · exact absurd (.inl rfl) ah
     have z1:n.size<=4:=by omega
     have z2:d.size<=4:=by omega
     have HG:=Md h1 z0 z1 z2;have ka:Hid (∀W,Calls Tryz.prog 116 #[.string n] W fun e w'=>e=.returned (.tuple #[.int .i64 (val n:Int),.nilIface])/\Below W.heap.size W w'):=fun W=>UA n q1 z1 W;have kb:Hid (∀W,Calls Tryz.prog 116 #[.string d] W fun e w'=>e=.returned (.tuple #[.int .i64 (val d:Int),.nilIface])/\Below W.heap.size W w'):=fun W=>UA d q2 z2 W;have v1:=Ve q1 z1;have v2:=Ve q2 z2;subst z0;clear h1 ah q1 q2;generalize hA:val n=a at *;generalize hB:val d=b at *;clear hA hB;have v3:1<=b:=by omega
     have ak:(b<a)∨(a<=b/\6000%b≠0)∨(a<=b/\6000%b=0):=by omega
     rcases ak with c1 | ⟨c1,c2⟩ | ⟨c1,c2⟩
     · rw[if_pos (.inl c1)]at HG;replace HG:=zh HG;go_enter Tryz.func66,Tryz.ntmps66
       go_wp2_with fail
       refine(hv.out _ (hE.out.below aa.out)).mono ?_;rintro e w1 ⟨rfl,hb⟩;have ad:=zh (aa.out.trans (hb.mono aa.out.size));have ae:=zh (aj.out.below hb);obtain⟨f1,f2,f3,_,_,_⟩:=ae.out.facts;have f4:=ae.out.lt;clear hb
       go_wp2_with fail
       refine(ka.out _).mono ?_;rintro e w2 ⟨rfl,hb⟩;have af:=zh (ad.out.trans (hb.mono ad.out.size));have ag:=zh (ae.out.below hb);clear hb f1 f2 f3 f4;obtain⟨f1,f2,f3,_,_,_⟩:=ag.out.facts;have f4:=ag.out.lt
       go_wp2_with fail
       refine(kb.out _).mono ?_;rintro e w3 ⟨rfl,hb⟩;have ai:=zh (af.out.trans (hb.mono af.out.size));clear hb f1 f2 f3 f4;go_wp2;go_ret;exact⟨by rw[HG.out];rfl,ai.out⟩
     · rw[if_pos (.inr c2)]at HG;replace HG:=zh HG;have t1:((6000:Int)%(b:Int) != 0)=true:=by rw[bne_iff_ne,VS];omega
       go_enter Tryz.func66,Tryz.ntmps66
       go_wp2_with fail
       refine(hv.out _ (hE.out.below aa.out)).mono ?_;rintro e w1 ⟨rfl,hb⟩;have ad:=zh (aa.out.trans (hb.mono aa.out.size));have ae:=zh (aj.out.below hb);obtain⟨f1,f2,f3,_,_,_⟩:=ae.out.facts;have f4:=ae.out.lt;clear hb
       go_wp2_with fail
       refine(ka.out _).mono ?_;rintro e w2 ⟨rfl,hb⟩;have af:=zh (ad.out.trans (hb.mono ad.out.size));have ag:=zh (ae.out.below hb);clear hb f1 f2 f3 f4;obtain⟨f1,f2,f3,_,_,_⟩:=ag.out.facts;have f4:=ag.out.lt
       go_wp2_with fail
       refine(kb.out _).mono ?_;rintro e w3 ⟨rfl,hb⟩;have ai:=zh (af.out.trans (hb.mono af.out.size));clear hb f1 f2 f3 f4;go_wp2;go_ret;exact⟨by rw[HG.out];rfl,ai.out⟩
     · rw[if_neg (by omega)]at HG;replace HG:=zh HG;have t1:((6000:Int)%(b:Int) != 0)=false:=by rw[bne_eq_false_iff_eq,VS];omega
       have t2:a*(6000/b)<=6000:=Nat.le_trans (Nat.mul_le_mul_right _ c1) (Nat.mul_div_le _ _);have t3:(0:Int)<=(a:Int)*((6000:Int)/(b:Int)):=by have:=Int.natCast_nonneg (a*(6000/b));rw[Int.natCast_mul]at this;exact this
       have t4 : (a : Int) * ((6000 : Int) / (b : Int)) <= 6000 := by have h:((a*(6000/b):Nat):Int)<=6000:=by omega
                                                                      rw[Int.natCast_mul]at h;exact h
       have HP:Hid (((a*(6000/b):Nat):Int)=(a:Int)*((6000:Int)/(b:Int))):=by rw[Int.natCast_mul];rfl
       clear t2;go_enter Tryz.func66,Tryz.ntmps66
       go_wp2_with fail
       refine(hv.out _ (hE.out.below aa.out)).mono ?_;rintro e w1 ⟨rfl,hb⟩;have ad:=zh (aa.out.trans (hb.mono aa.out.size));have ae:=zh (aj.out.below hb);obtain⟨f1,f2,f3,_,_,_⟩:=ae.out.facts;have f4:=ae.out.lt;clear hb
       go_wp2_with fail
       refine(ka.out _).mono ?_;rintro e w2 ⟨rfl,hb⟩;have af:=zh (ad.out.trans (hb.mono ad.out.size));have ag:=zh (ae.out.below hb);clear hb f1 f2 f3 f4;obtain⟨f1,f2,f3,_,_,_⟩:=ag.out.facts;have f4:=ag.out.lt
       go_wp2_with fail
       refine(kb.out _).mono ?_;rintro e w3 ⟨rfl,hb⟩;have ai:=zh (af.out.trans (hb.mono af.out.size));clear hb f1 f2 f3 f4;go_wp2;go_ret;exact⟨by rw[HG.out,HP.out];rfl,ai.out⟩
end Ci
end
section
open Go.Maps (Keyed)
open Go.RowKit
namespace Ci
def QQ (v:Value):Option (DataW Value×List MemPlace):=some (.held v,[])
def OJ {α:Type} [DecidableEq α] (f:α->Option Value) (x:α) (v:Option Value):α->Option Value:=fun y=>if y=x then v else f y
theorem Cb {α:Type} [DecidableEq α] (f:α->Option Value) (x:α) (v:Option Value):OJ f x v x=v:=if_pos rfl
theorem BT {α:Type} [DecidableEq α] {f:α->Option Value} {x y:α} {v:Option Value} (h:y≠x):OJ f x v y=f y:=if_neg h
def MapK {α:Type} (P:Program) (k:TypeId) (κ:α->Lit) (w:World) (b c:Nat) (f:α->Option Value):Prop :=
 ∃D:DataW Value,w.ownsMap P k QQ b c D/\Maps.size D=c/\∀x,Maps.has D (κ x)=(f x).isSome/\∀z,D.atKey (κ x) z=match f x with | some v=>.held v | none=>z
section
variable {α:Type} {P:Program} {k t e:TypeId} {κ:α->Lit} {w w':World} {b c:Nat} {f:α->Option Value}
theorem IV {R:Value->Option (DataW Value×List MemPlace)} {n:Nat} {D:DataW Value} (h:w.ownsMap P k R b n D):w.ownsMap P k R b (Maps.size D) D:=by
 obtain⟨es,clock,hb,F,_,rfl⟩:=h;refine⟨es,clock,hb,F,?_,rfl⟩;simp[Maps.size,length_sorted]
theorem MapK.made (w:World) (P:Program) (k:TypeId) (κ:α->Lit):MapK P k κ (w.alloc (.map #[] 0)) w.heap.size 0 fun _=>none :=
 ⟨.map [],World.ownsMap_made w P k QQ,rfl,fun _=>⟨rfl,fun _=>rfl⟩⟩
theorem MapK.lt (h:MapK P k κ w b c f):b<w.heap.size:=by obtain⟨D,h,_⟩:=h;exact h.lt
theorem MapK.kept {row:Option Nat} (h:MapK P k κ w b c f) (hg:w.grownBy w' row) (a:some b≠row):MapK P k κ w' b c f:=by
 obtain⟨D,h,r⟩:=h;exact⟨D,h.kept hg a,r⟩
theorem MapK.block (h:MapK P k κ w b c f) (hb:w'.heap[b]? = w.heap[b]?):MapK P k κ w' b c f:=by
 obtain⟨D,⟨es,clock,h1,h2⟩,r⟩:=h;exact⟨D,⟨es,clock,hb.trans h1,h2⟩,r⟩
theorem MapK.below (h:MapK P k κ w b c f) (hb:Below w.heap.size w w'):MapK P k κ w' b c f:=h.block (hb.block b h.lt)
theorem MapK.alloc (h:MapK P k κ w b c f) (o:Obj):MapK P k κ (w.alloc o) b c f:=by
 obtain⟨D,h,r⟩:=h;exact⟨D,h.alloc o,r⟩
theorem MapK.drew (h:MapK P k κ w b c f):MapK P k κ w.drew b c f:=h
theorem MapK.set (h:MapK P k κ w b c f) {a:Addr} (ha:b≠a.block) (u:Value):MapK P k κ (w.setCell a u) b c f:=by
 obtain⟨D,h,r⟩:=h;exact⟨D,h.setCell ha u,r⟩
theorem MapK.congr {g:α->Option Value} (h:MapK P k κ w b c f) (e:∀x,f x=g x):MapK P k κ w b c g:=by rwa [<-funext e]
theorem MapK.look (h:MapK P k κ w b c f) (K:Keyed P k) (ht:P.underlying t=some (.map k e)) {z:Value} (hz:(zeroValue e).run P w=.ok z w) {key:Value} {x:α} (a:keyOf P k key=some (κ x)) :
 (Instr.lookup t (.map (some b)) key false).run P w=.ok ((f x).getD z) w:=by
 obtain⟨D,h,_,hv⟩:=h;obtain⟨v,ps,d,hR⟩:=h.lookup K ht hz (zd:=.held z) (zp:=[]) rfl a;rw[d];rw[(hv x).2]at hR;simp only[QQ,Option.some.injEq,Prod.mk.injEq]at hR
 cases hf:f x with
 | none=>rw[hf]at hR;simp only[DataW.held.injEq]at hR;rw[hR.1];rfl
 | some u=>rw[hf]at hR;simp only[DataW.held.injEq]at hR;rw[hR.1];rfl
theorem MapK.look_ok (h:MapK P k κ w b c f) (K:Keyed P k) (ht:P.underlying t=some (.map k e)) {z:Value} (hz:(zeroValue e).run P w=.ok z w) {key:Value} {x:α} (a:keyOf P k key=some (κ x)) :
 (Instr.lookup t (.map (some b)) key true).run P w=.ok (.tuple #[(f x).getD z,.bool (f x).isSome]) w:=by
 obtain⟨D,h,_,hv⟩:=h;obtain⟨v,ps,d,hR⟩:=h.look_ok K ht hz (zd:=.held z) (zp:=[]) rfl a;rw[d,(hv x).1];rw[(hv x).2]at hR;simp only[QQ,Option.some.injEq,Prod.mk.injEq]at hR
 cases hf:f x with
 | none=>rw[hf]at hR;simp only[DataW.held.injEq]at hR;rw[hR.1];rfl
 | some u=>rw[hf]at hR;simp only[DataW.held.injEq]at hR;rw[hR.1];rfl
theorem MapK.put [DecidableEq α] (h:MapK P k κ w b c f) (hκ:∀x y,κ x=κ y->x=y) (K:Keyed P k) (ht:P.underlying t=some (.map k e)) (hn:c<maxLen) {key:Value} {x:α} (a:keyOf P k key=some (κ x)) (v:Value) :
 ∃w',(Instr.mapUpdate t (.map (some b)) key v).run P w=.ok () w'/\MapK P k κ w' b (if (f x).isSome then c else c+1) (OJ f x (some v))/\w.grownBy w' (some b):=by
 obtain⟨D,h,hs,hv⟩:=h;obtain⟨w',aa,h2,hg⟩:=h.update K ht hn a (R:=QQ) (val:=v) rfl
 have ad:Maps.size (D.put (κ x) (.held v))=if (f x).isSome then c else c+1:=by
  rw[Maps.size_put (h.tidy K),hs,(hv x).1]
 refine⟨w',aa,⟨_,by have:=IV h2;rwa [ad]at this,ad,fun y=>?_⟩,hg⟩
 by_cases hy:y=x
 · subst hy;rw[Cb];exact⟨Maps.has_put_same h.isMap (K.key a) _,fun z=>Maps.atKey_put_same h.isMap (K.key a) _ z⟩
 · have d:κ y≠κ x:=fun e=>hy (hκ _ _ e);rw[BT hy,Maps.has_put_other d];refine⟨(hv y).1,fun z=>?_⟩;rw[Maps.atKey_put_other d];exact(hv y).2 z
theorem MapK.del [DecidableEq α] (h:MapK P k κ w b c f) (hκ:∀x y,κ x=κ y->x=y) (K:Keyed P k) (ht:P.underlying t=some (.map k e)) {key:Value} {x:α} (a:keyOf P k key=some (κ x)) (ty:TypeId) :
 ∃w',(Builtin.delete_ #[t,k] ty #[.map (some b),key]).run P w=.ok (.tuple #[]) w'/\MapK P k κ w' b (if (f x).isSome then c-1 else c) (OJ f x none)/\w.grownBy w' (some b):=by
 obtain⟨D,h,hs,hv⟩:=h;obtain⟨w',aa,h2,hg⟩:=h.drop K ht a ty
 have ad:Maps.size (D.del (κ x))=if (f x).isSome then c-1 else c:=by
  have:=Maps.size_del (k:=κ x) (h.tidy K);rw[hs,(hv x).1]at this
  split<;>simp_all<;>omega
 refine⟨w',aa,⟨_,by have:=IV h2;rwa [ad]at this,ad,fun y=>?_⟩,hg.grown⟩
 by_cases hy:y=x
 · subst hy;rw[Cb];exact⟨Maps.has_del_same,fun z=>Maps.atKey_del_same z⟩
 · have d:κ y≠κ x:=fun e=>hy (hκ _ _ e);rw[BT hy,Maps.has_del_other d];refine⟨(hv y).1,fun z=>?_⟩;rw[Maps.atKey_del_other d];exact(hv y).2 z
theorem MapK.len (h:MapK P k κ w b c f) (ht:P.underlying t=some (.map k e)) (ty:TypeId):(Builtin.len_ #[t] ty #[.map (some b)]).run P w=.ok (.int .i64 c) w:=by
 obtain⟨D,h,hs,_⟩:=h;rw[h.len ht,hs]
end
def κi (a:Int):Lit:=.int .i64 a
theorem Gn:∀x y,κi x=κi y->x=y:=fun x y h=>by injection h
theorem E5 {P:Program} {k:TypeId} (hk:P.underlying k=some (.int .i64)) {a:Int} (h1:-9223372036854775808<=a) (h2:a<=9223372036854775807):keyOf P k (.int .i64 a)=some (κi a):=Maps.keyOf_int_mk hk (WalkArith.wf_i64 ⟨h1,h2⟩)
end Ci
end
section
open Go.RowKit Go.Shelf
namespace Ci
open Nt
def B8:Code->List Code
 | .loop c=>B8 c
 | .seq a b=>B8 a++B8 b
 | .block _ c=>B8 c
 | .scope c=>B8 c
 | .cond _ a b=>B8 a++B8 b
 | .region a b c=>[.region a b c]
 | _=>[]
noncomputable def VT (j:Nat):Code:=((Tryz.f65.body.map B8).bind fun l=>l[j]?).getD .skip
theorem VU {c0 c1 c2 c3 c4 c6 c7 c9 a d aa ad ae af ag ah ai aj ak al am an ao aq ar au av aw ax ay az aA aB aC aD aE aF aG aH aI aJ aK aL aM aN aO aP aQ aR aS aT aU aV aW aX aY aZ a0 a1 a2 a3 a4 a5 a6 a7 a8 a9 ba bb bd be bf bg bh bi bj bk bm bn bo bp bq br bs bt bu bv bw bx bz bA bB bC bD:Value} {Q:Exit->Act->World->Prop} (kb lb:Nat) (co ho lc lh:Int) (r:Bool) (hr:r=decide (lc<co∨(lc=co/\lh<ho))) (w:World) (u2:w.cell? ⟨kb,0,none⟩=some (.int .i64 co)) (u3:w.cell? ⟨kb,1,none⟩=some (.int .i64 ho)) (u4:w.cell? ⟨lb,0,none⟩=some (.int .i64 lc)) (u5:w.cell? ⟨lb,1,none⟩=some (.int .i64 lh))
 (h:∀u33 u34 u35 u36 u37 u38 u39 u40 u41 u42 u43 u44 u45 u46 u47 u48 u49 u50 u51:Value,Q .normal ⟨#[c0,c1,c2,c3,c4,.pointer (some ⟨lb,0,none⟩),c6,c7,.pointer (some ⟨kb,0,none⟩),c9,.bool r,a,d,aa,ad,ae,af,ag,ah,ai,aj,ak,al,am,an,ao,aq,ar,au,av,aw,ax,ay,u33,u34,u35,u36,u37,u38,u39,u40,u41,u42,u43,u44,u45,u46,u47,u48,u49,u50,u51,az,aA,aB,aC,aD,aE,aF,aG,aH,aI,aJ,aK,aL,aM,aN,aO,aP,aQ,aR,aS,aT,aU,aV,aW,aX,aY,aZ,a0,a1,a2,a3,a4,a5,a6,a7,a8,a9,ba,bb,bd,be,bf,bg,bh],[]⟩ w) :
 Code.wp Tryz.prog (VT 7) Q ⟨#[c0,c1,c2,c3,c4,.pointer (some ⟨lb,0,none⟩),c6,c7,.pointer (some ⟨kb,0,none⟩),c9,bi,a,d,aa,ad,ae,af,ag,ah,ai,aj,ak,al,am,an,ao,aq,ar,au,av,aw,ax,ay,bj,bk,bm,bn,bo,bp,bq,br,bs,bt,bu,bv,bw,bx,bz,bA,bB,bC,bD,az,aA,aB,aC,aD,aE,aF,aG,aH,aI,aJ,aK,aL,aM,aN,aO,aP,aQ,aR,aS,aT,aU,aV,aW,aX,aY,aZ,a0,a1,a2,a3,a4,a5,a6,a7,a8,a9,ba,bb,bd,be,bf,bg,bh],[]⟩ w:=by
 conv=>arg 2;whnf
 conv=>arg 4;zeta
 replace h:=zh h;have bE:(lc<co)∨(co=lc/\lh<ho)∨(co<lc)∨(co=lc/\ho<=lh):=by omega
 rcases bE with r1 | ⟨r1,r2⟩ | r1 | ⟨r1,r2⟩
 · have m1:(co==lc)=false:=by rw[beq_eq_false_iff_ne];omega
   obtain rfl:r=true:=by rw[hr,decide_eq_true (.inl r1)]
   clear hr;go_wp2;exact h.out ..
 · have m1:(co==lc)=true:=by rw[beq_iff_eq];exact r1
   have m2:co<=lc:=by omega
   obtain rfl:r=true:=by rw[hr,decide_eq_true (.inr ⟨r1.symm,r2⟩)]
   clear hr r1;go_wp2;exact h.out ..
 · have m1:(co==lc)=false:=by rw[beq_eq_false_iff_ne];omega
   obtain rfl:r=false:=by rw[hr,decide_eq_false (by omega)]
   have m3:decide (lc<co)=false:=decide_eq_false (by omega);clear hr;go_wp2;exact h.out ..
 · have m1:(co==lc)=true:=by rw[beq_iff_eq];exact r1
   have m2:co<=lc:=by omega
   obtain rfl:r=false:=by rw[hr,decide_eq_false (by omega)]
   have m3:decide (lc<co)=false:=decide_eq_false (by omega);have m4:decide (lh<ho)=false:=decide_eq_false (by omega);clear hr r1;go_wp2;exact h.out ..
theorem VV {c0 c2 c3 c5 c6 a d aa ad ae af ag ah ai aj ak al am an ao aq ar au av aw ax ay az aA aB aC aD aE aF aG aH aI aJ aK aL aM aN aO aP aQ aR aS aT aU aV aW aX aY aZ a0 a1 a2 a3 a4 a5 a6 a7 a8 a9 ba bb bd be bf bg bh bi bj bk a78 a79 bm bn bo bp bq br bs bt bu a89 bv bw bx bz:Value} {Q:Exit->Act->World->Prop} (xb kb nb mb n p s:Nat) (co ho:Int) (r q:Bool) (hq:q=decide (co<0∨(n:Int)<=co∨ho<0∨(n:Int)<=ho∨co=ho∨r=false∨p=0∨6000<s)) (w:World) (bC:p<=6000) (hs:s<=12000) (hn:n<=140737488355328) (u1:w.cell? ⟨xb,0,none⟩=some (.int .i64 co)) (u2:w.cell? ⟨kb,0,none⟩=some (.int .i64 co)) (u3:w.cell? ⟨kb,1,none⟩=some (.int .i64 ho)) (u4:w.cell? ⟨nb,0,none⟩=some (.int .i64 (n:Int))) (hk:(Instr.lookup 88 (.map (some mb)) (.int .i64 co) false).run Tryz.prog w=.ok (.int .i64 (s:Int)) w)
 (h:∀u52 u53 u54 u55 u56 u57 u58 u59 u60 u61 u62 u63 u64 u65 u66 u67 u68 u69 u70 u71 u72 u73 u74 u75 u76 u77 u78 u79 u80 u81 u82 u83 u84 u85 u86 u87 u88 u89 u90 u91 u92:Value,Q .normal ⟨#[c0,.pointer (some ⟨nb,0,none⟩),c2,c3,.map (some mb),c5,c6,.pointer (some ⟨xb,0,none⟩),.pointer (some ⟨kb,0,none⟩),.int .i64 (p:Int),.bool r,a,d,aa,ad,ae,af,ag,ah,ai,aj,ak,al,am,an,ao,aq,ar,au,av,aw,ax,ay,az,aA,aB,aC,aD,aE,aF,aG,aH,aI,aJ,aK,aL,aM,aN,aO,aP,aQ,aR,u52,u53,u54,u55,u56,u57,u58,u59,u60,u61,u62,u63,u64,u65,u66,u67,u68,u69,u70,u71,u72,u73,u74,u75,u76,u77,u78,u79,u80,u81,u82,u83,u84,u85,u86,u87,u88,u89,u90,u91,u92,.bool q,aS,aT],[]⟩ w) :
 Code.wp Tryz.prog (VT 8) Q ⟨#[c0,.pointer (some ⟨nb,0,none⟩),c2,c3,.map (some mb),c5,c6,.pointer (some ⟨xb,0,none⟩),.pointer (some ⟨kb,0,none⟩),.int .i64 (p:Int),.bool r,a,d,aa,ad,ae,af,ag,ah,ai,aj,ak,al,am,an,ao,aq,ar,au,av,aw,ax,ay,az,aA,aB,aC,aD,aE,aF,aG,aH,aI,aJ,aK,aL,aM,aN,aO,aP,aQ,aR,aU,aV,aW,aX,aY,aZ,a0,a1,a2,a3,a4,a5,a6,a7,a8,a9,ba,bb,bd,be,bf,bg,bh,bi,bj,bk,a78,a79,bm,bn,bo,bp,bq,br,bs,bt,bu,a89,bv,bw,bx,bz,aS,aT],[]⟩ w:=by
 conv=>arg 2;whnf
 conv=>arg 4;zeta
 replace h:=zh h;have bA:(co<0)∨(0<=co/\(n:Int)<=co)∨(0<=co/\co<n/\ho<0)∨(0<=co/\co<n/\0<=ho/\(n:Int)<=ho)∨(0<=co/\co<n/\0<=ho/\ho<n/\co=ho)∨(0<=co/\co<n/\0<=ho/\ho<n/\co≠ho):=by omega
 rcases bA with b1 | ⟨b1,b2⟩ | ⟨b1,b2,b3⟩ | ⟨b1,b2,b3,b4⟩ | ⟨b1,b2,b3,b4,b5⟩ | ⟨b1,b2,b3,b4,b5⟩
 · have q0:True:=trivial;clear q0;obtain rfl:q=true:=by rw[hq,decide_eq_true (.inl b1)]
   clear hq;go_wp2;exact h.out ..
 · have q0:True:=trivial;clear q0;obtain rfl:q=true:=by rw[hq,decide_eq_true (.inr (.inl b2))]
   clear hq;go_wp2;exact h.out ..
 · have q0:True:=trivial;clear q0;obtain rfl:q=true:=by rw[hq,decide_eq_true (.inr (.inr (.inl b3)))]
   clear hq;go_wp2;exact h.out ..
 · have q0:True:=trivial;clear q0;obtain rfl:q=true:=by rw[hq,decide_eq_true (.inr (.inr (.inr (.inl b4))))]
   clear hq;go_wp2;exact h.out ..
 · have m5:(co==ho)=true:=by rw[beq_iff_eq];exact b5
   obtain rfl:q=true:=by rw[hq,decide_eq_true (.inr (.inr (.inr (.inr (.inl b5)))))]
   clear hq b5;go_wp2;exact h.out ..
 · have m5:(co==ho)=false:=by rw[beq_eq_false_iff_ne];exact b5
   cases r with
   | false =>
     obtain rfl:q=true:=by rw[hq,decide_eq_true (.inr (.inr (.inr (.inr (.inr (.inl rfl))))))]
     clear hq;go_wp2;exact h.out ..
   | true =>
     have bB:p=0∨(1<=p/\6000<s)∨(1<=p/\s<=6000):=by omega
     rcases bB with p1 | ⟨p1,p2⟩ | ⟨p1,p2⟩
     · have m6:((p:Int)==0)=true:=by rw[beq_iff_eq];omega
       have m7:(p==0)=true:=by rw[beq_iff_eq];exact p1
       obtain rfl:q=true:=by rw[hq,decide_eq_true (.inr (.inr (.inr (.inr (.inr (.inr (.inl p1)))))))]
       clear hq;replace p1:=zh p1;go_wp2;exact h.out ..
     · have m6:((p:Int)==0)=false:=by rw[beq_eq_false_iff_ne];omega
       have m7:(p==0)=false:=by rw[beq_eq_false_iff_ne];omega
       have m8:decide (6000<(s:Int))=true:=decide_eq_true (by omega);have m9:decide (6000<s)=true:=decide_eq_true p2;obtain rfl:q=true:=by rw[hq,decide_eq_true (.inr (.inr (.inr (.inr (.inr (.inr (.inr p2)))))))]
       clear hq;go_wp2;exact h.out ..
     · have m6:((p:Int)==0)=false:=by rw[beq_eq_false_iff_ne];omega
       have m7:(p==0)=false:=by rw[beq_eq_false_iff_ne];omega
       obtain rfl:q=false:=by rw[hq,decide_eq_false];rintro(c | c | c | c | c | c | c | c)<;>first | omega | exact b5 c | cases c
       have m8:decide (6000<(s:Int))=false:=decide_eq_false (by omega);have m9:decide (6000<s)=false:=decide_eq_false (by omega);have bD:decide (co<0)=false:=decide_eq_false (by omega);have bE:decide ((n:Int)<=co)=false:=decide_eq_false (by omega);have bF:decide (ho<0)=false:=decide_eq_false (by omega);have bG:decide ((n:Int)<=ho)=false:=decide_eq_false (by omega);clear hq;go_wp2;exact h.out ..
end Ci
end
section
open Go.RowKit Go.Shelf
namespace Ci
open Nt
def Bk (W:World) (b:Nat) (t:TypeId) (l:List Value):Prop:=W.heap[b]? = some (.cells l.toArray t (0,0))
section
variable {W W':World} {b:Nat} {t:TypeId} {l:List Value}
theorem Bk.lt (h:Bk W b t l):b<W.heap.size:=(Array.getElem?_eq_some_iff.1 h).1
theorem Bk.cell (h:Bk W b t l) {j:Nat} {v:Value} (hj:l[j]? = some v):W.cell? ⟨b,j,none⟩=some v:=by
 unfold Bk at h;simp[World.cell?,h,hj]
theorem Bk.c0 (h:Bk W b t l) {v:Value} (hj:l[0]?=some v:=by exact rfl):W.cell? ⟨b,0,none⟩=some v:=h.cell hj
theorem Bk.c1 (h:Bk W b t l) {v:Value} (hj:l[1]?=some v:=by exact rfl):W.cell? ⟨b,1,none⟩=some v:=h.cell hj
theorem Bk.c2 (h:Bk W b t l) {v:Value} (hj:l[2]?=some v:=by exact rfl):W.cell? ⟨b,2,none⟩=some v:=h.cell hj
theorem Bk.c3 (h:Bk W b t l) {v:Value} (hj:l[3]?=some v:=by exact rfl):W.cell? ⟨b,3,none⟩=some v:=h.cell hj
theorem Bk.c4 (h:Bk W b t l) {v:Value} (hj:l[4]?=some v:=by exact rfl):W.cell? ⟨b,4,none⟩=some v:=h.cell hj
theorem Bk.c5 (h:Bk W b t l) {v:Value} (hj:l[5]?=some v:=by exact rfl):W.cell? ⟨b,5,none⟩=some v:=h.cell hj
theorem Bk.c6 (h:Bk W b t l) {v:Value} (hj:l[6]?=some v:=by exact rfl):W.cell? ⟨b,6,none⟩=some v:=h.cell hj
theorem Bk.c7 (h:Bk W b t l) {v:Value} (hj:l[7]?=some v:=by exact rfl):W.cell? ⟨b,7,none⟩=some v:=h.cell hj
theorem Bk.frozen (h:Bk W b t l) (j:Nat):W.frozen? ⟨b,j,none⟩=false:=by
 unfold Bk at h;simp[World.frozen?,h]
theorem Bk.new (w:World) (t:TypeId) (l:List Value):Bk (w.alloc (.cells l.toArray t)) w.heap.size t l:=heap_alloc_new _ _
theorem Bk.below (h:Bk W b t l) (hb:Below W.heap.size W W'):Bk W' b t l:=(hb.block b h.lt).trans h
theorem Bk.alloc (h:Bk W b t l) (o:Obj):Bk (W.alloc o) b t l:=(Below.heap_alloc W o b h.lt).trans h
theorem Bk.grown {row:Option Nat} (h:Bk W b t l) (hg:W.grownBy W' row) (a:some b≠row):Bk W' b t l:=(hg.block b h.lt a).trans h
theorem Bk.far (h:Bk W b t l) {p:Addr} (hp:b≠p.block) (v:Value):Bk (W.setCell p v) b t l:=(Below.heap_setCell _ _ _ _ hp).trans h
theorem Bk.set (h:Bk W b t l) (j:Nat) (v:Value):Bk (W.setCell ⟨b,j,none⟩ v) b t (l.set j v):=by
 unfold Bk at h ⊢;simp[World.setCell,Array.getElem?_modify,h]
end
theorem sumU_take {l:List Lk} {k:Nat} (h:k<l.length) (c:Int):sumU (l.take (k+1)) c=sumU (l.take k) c+if l[k].1=c then unitsN (lkP l[k]) else 0:=by
 unfold sumU;rw[List.take_succ_eq_append_getElem h,List.filter_append,List.map_append,List.sum_append]
 congr 1
 by_cases e:l[k].1=c
 · rw[if_pos e,List.filter_cons,if_pos (decide_eq_true e)];simp
 · rw[if_neg e,List.filter_cons,if_neg (by simpa using e)];simp
theorem N9 {n:Nat} {l:List Lk}:∀k,k<=l.length->(∀i (h:i<l.length),i<k->CG n l i h)->∀c,sumU (l.take k) c<=6000:=by
 intro k
 induction k with
 | zero=>intro _ _ c;simp[sumU]
 | succ k ih =>
   intro hk h c;have h1:=ih (by omega) (fun i hi h2=>h i hi (by omega)) c;rw[sumU_take (by omega)]
   by_cases e:l[k].1=c
   · have h2:=(h k (by omega) (by omega)).2.2;rw[sumU_take (by omega),if_pos rfl,e]at h2;rw[if_pos e];exact h2
   · rw[if_neg e];omega
def T4 (W:World) (b:Nat) (l:List Lk) (k:Nat):Prop:=∃c f,MapK Tryz.prog 3 κi W b c f/\c<=k/\∀y:Int,(f y).getD (.int .i64 0)=.int .i64 (sumU (l.take k) y:Int)
def WA (l:List Lk) (k:Nat):List Value:=match l[k-1]? with
 | some x=>if k=0 then [.int .i64 (-1),.int .i64 (-1)] else [.int .i64 x.1,.int .i64 x.2.1]
 | none=>[.int .i64 (-1),.int .i64 (-1)]
def DZ (l:List Lk) (k:Nat):Int:=match l[k-1]? with
 | some x=>if k=0 then -1 else x.1
 | none=>-1
def EE (l:List Lk) (k:Nat):Int:=match l[k-1]? with
 | some x=>if k=0 then -1 else x.2.1
 | none=>-1
theorem Gp (l:List Lk):DZ l 0=-1/\EE l 0=-1:=by
 unfold DZ EE
 cases l[0-1]?<;>simp
theorem IW {l:List Lk} {k:Nat} (h:k<l.length):DZ l (k+1)=l[k].1/\EE l (k+1)=l[k].2.1:=by
 unfold DZ EE;rw[Nat.add_sub_cancel,List.getElem?_eq_getElem h];simp
theorem QR {l:List Lk} {k:Nat} (h:k<l.length) (h0:0<=l[k].1):(0<k->LQ (l[k-1]'(by omega)) l[k])↔(DZ l k<l[k].1∨(DZ l k=l[k].1/\EE l k<l[k].2.1)):=by
 by_cases e:k=0
 · subst e;have:=Gp l;constructor
   · intro _;left;omega
   · intro _ hc;omega
 · obtain⟨j,rfl⟩:∃j,k=j+1:=⟨k-1,by omega⟩;have hj:j<l.length:=by omega
   obtain⟨e1,e2⟩:=IW hj;rw[e1,e2];have hg:l[j+1-1]'(by omega)=l[j]:=by simp
   rw[hg];unfold LQ;exact⟨fun h=>h (by omega),fun h _=>h⟩
def T5 (w:World) (n:Nat) (l:List Lk) (mb lb:Nat) (k:Nat) (wr:World):Prop :=
 Hid (Below w.heap.size w wr)/\Hid (T4 wr mb l k)/\Hid (Bk wr lb 90 [.int .i64 (DZ l k),.int .i64 (EE l k)])/\Hid (∀i (h:i<l.length),i<k->CG n l i h)
theorem F3:Go.Maps.Keyed Tryz.prog 3:=Go.Maps.int_keyed Tryz.underlying3
theorem UB (w:World):(zeroValue 3).run Tryz.prog w=.ok (.int .i64 0) w:=by kernel_rfl
theorem QS (A:Option Addr) (cap n nb:Nat) (l:List Lk) (w:World) (hE:Env w) (hl:InLk w A l) (bq:l.length<=140737488355328) (hn:n<=140737488355328) (aD:w.cell? ⟨nb,0,none⟩=some (.int .i64 (n:Int)))
 (hz:∀x,x∈l->x.2.2.2.1.size<=140737488355328/\x.2.2.2.2.size<=140737488355328) (hi:∀x,x∈l->(-9223372036854775808<=x.1/\x.1<=9223372036854775807)/\(-9223372036854775808<=x.2.1/\x.2.1<=9223372036854775807)) :
 Calls Tryz.prog 65 #[.slice A l.length cap,.pointer (some ⟨nb,0,none⟩)] w fun e w'=>e=.returned (.bool (ED n l))/\Below w.heap.size w w':=by
 have bk:=@run_makeMap Tryz.prog;have bm:=World.block_lt_of_cell? w _ aD;have aW:Hid (T4 ((w.alloc (.map #[] 0)).alloc (.cells #[.int .i64 (-1),.int .i64 (-1)] 90)) w.heap.size l 0):=⟨0,_,(MapK.made w _ _ _).alloc _,Nat.le_refl _,fun y=>rfl⟩
 have aU:Hid (Bk ((w.alloc (.map #[] 0)).alloc (.cells #[.int .i64 (-1),.int .i64 (-1)] 90)) (w.heap.size+1) 90 [.int .i64 (DZ l 0),.int .i64 (EE l 0)]):=by
  have h:=Bk.new (w.alloc (.map #[] 0)) 90 [.int .i64 (-1),.int .i64 (-1)];rw[World.size_alloc]at h;rw[(Gp l).1,(Gp l).2];exact h
 have aR:Hid (Below w.heap.size w ((w.alloc (.map #[] 0)).alloc (.cells #[.int .i64 (-1),.int .i64 (-1)] 90))):=((Below.refl _ w).alloc (Nat.le_refl _) _).alloc (by simp) _;replace hE:=zh hE;replace hl:=zh hl;replace hz:=zh hz;replace hi:=zh hi;replace aD:=zh aD;have bf:=zh (fun(k:Nat) (h:k<l.length) (hb:¬CG n l k h)=>QF (n:=n) (l:=l) h hb);have be:=zh (QG (n:=n) (l:=l));go_enter Tryz.func65,Tryz.ntmps65;go_wp2;clear bk
 go_loopw [15] (fun i wr=>∃k:Nat,k<=l.length/\i=.int .i64 (k:Int)/\Hid (T5 w n l w.heap.size (w.heap.size+1) k wr)) (fun i _=>l.length-(intOf i).toNat)
 case atStart=>exact⟨0,Nat.zero_le _,rfl,aR,aW,aU,fun i _ h=>absurd h (Nat.not_lt_zero _)⟩
 case round =>
  obtain⟨k,hk,rfl,hI⟩:=hrel;clear aW aU aR;obtain⟨hB,hM,hL,hA⟩:=hI.out
  by_cases hlt:k<l.length
  · obtain ⟨b,o,rfl,bj,hc⟩:=(hl.out.below hB.out) (by omega);obtain⟨e1,e2,e3,e4,e5⟩:=hc k hlt;have bb:=hz.out l[k] (List.getElem_mem hlt);have aZ:=hi.out l[k] (List.getElem_mem hlt);have aw:=zh (bf.out k hlt);have ao:=zh (sumU_take hlt);have ag:=zh (QR hlt);have ax:=zh (IW hlt);have a7:=N9 k hk hA.out
    have aQ:Hid (CG n l k hlt->∀i (h:i<l.length),i<k+1->CG n l i h):=fun h i hi h2=>by
     by_cases e:i=k
     · subst e;exact h
     · exact hA.out i hi (by omega)
    have af:Hid (CG n l k hlt↔(Own n l[k]/\(0<k->LQ (l[k-1]'(by omega)) l[k])/\sumU (l.take (k+1)) l[k].1<=6000)):=Iff.rfl;obtain⟨x,hx⟩:∃x,x=l[k]:=⟨_,rfl⟩;rw[<-hx]at e1 e2 e3 e4 e5 bb aZ ao ag ax af;obtain⟨co,ho,g,nn,dd⟩:=x;replace e1:wr.cell? ⟨b,o+k*5,none⟩=some (.int .i64 co):=e1;replace e2:wr.cell? ⟨b,o+k*5+1,none⟩=some (.int .i64 ho):=e2;replace e3:wr.cell? ⟨b,o+k*5+2,none⟩=some (.bool g):=e3;replace e4:wr.cell? ⟨b,o+k*5+3,none⟩=some (.string nn):=e4;replace e5:wr.cell? ⟨b,o+k*5+4,none⟩=some (.string dd):=e5;obtain⟨⟨i1,i2⟩,i3,i4⟩:=aZ;replace i1:-9223372036854775808<=co:=i1;replace i2:co<=9223372036854775807:=i2;replace i3:-9223372036854775808<=ho:=i3;replace i4:ho<=9223372036854775807:=i4;obtain⟨z1,z2⟩:=bb;replace z1:nn.size<=140737488355328:=z1;replace z2:dd.size<=140737488355328:=z2;have a6:=a7 co;have aO:=QE (g,nn,dd);have ku:Hid (∀W,Env W->Calls Tryz.prog 66 #[.agg #[.bool g,.string nn,.string dd]] W fun e w'=>e=.returned (.int .i64 (unitsN (g,nn,dd):Int))/\Below W.heap.size W w'):=fun W hW=>OI g nn dd W hW z1 z2;replace af:Hid (CG n l k hlt↔((0<=co/\co<n)/\(0<=ho/\ho<n)/\co≠ho/\unitsN (g,nn,dd)≠0)/\(0<k->LQ (l[k-1]'(by omega)) (co,ho,g,nn,dd))/\sumU (l.take (k+1)) co<=6000):=af;replace ag:Hid (0<=co->((0<k->LQ (l[k-1]'(by omega)) (co,ho,g,nn,dd))↔(DZ l k<co∨(DZ l k=co/\EE l k<ho)))):=ag;replace ao:Hid (∀c,sumU (l.take (k+1)) c=sumU (l.take k) c+if co=c then unitsN (g,nn,dd) else 0):=ao;replace ax:Hid (DZ l (k+1)=co/\EE l (k+1)=ho):=ax;have aj:Hid (sumU (l.take (k+1)) co=sumU (l.take k) co+unitsN (g,nn,dd)):=by have h:=ao.out co;rwa [if_pos rfl]at h
    obtain⟨p,hp⟩:∃p,p=unitsN (g,nn,dd):=⟨_,rfl⟩;rw[<-hp]at aO ku af ao aj;obtain⟨sk,am⟩:∃s,s=sumU (l.take k) co:=⟨_,rfl⟩;rw[<-am]at a6 aj;obtain⟨lc,aL⟩:∃s,s=DZ l k:=⟨_,rfl⟩;obtain⟨lh,aM⟩:∃s,s=EE l k:=⟨_,rfl⟩;rw[<-aL,<-aM]at hL ag;replace hp:=zh hp;replace hx:=zh hx;replace am:=zh am;replace aL:=zh aL;replace aM:=zh aM;have i0:(0:Int)<=(k:Int):=by omega
    have i5:(k:Int)<(l.length:Int):=by omega
    clear hc a7 hI hl hz hi;have ar:Hid (Bk (wr.alloc (.cells #[.int .i64 co,.int .i64 ho,.bool g,.string nn,.string dd] 59)) wr.heap.size 59 [.int .i64 co,.int .i64 ho,.bool g,.string nn,.string dd]):=Bk.new wr _ _;have ae:=zh (hB.out.alloc hB.out.size (.cells #[.int .i64 co,.int .i64 ho,.bool g,.string nn,.string dd] 59));have hL1:=zh (hL.out.alloc (.cells #[.int .i64 co,.int .i64 ho,.bool g,.string nn,.string dd] 59));obtain⟨mc,f,aX,bt,hf⟩:=hM.out;have aI:=zh (aX.alloc (.cells #[.int .i64 co,.int .i64 ho,.bool g,.string nn,.string dd] 59));replace hf:=zh hf;clear aX
    go_wp2_with fail
    obtain⟨W1,aY⟩:∃W,W=wr.alloc (.cells #[.int .i64 co,.int .i64 ho,.bool g,.string nn,.string dd] 59):=⟨_,rfl⟩;rw[<-aY]at ar ae hL1 aI ⊢;have bp:w.heap.size+1<wr.heap.size:=hL.out.lt;obtain⟨xb,a9⟩:∃b,b=wr.heap.size:=⟨_,rfl⟩;rw[<-a9]at ar bp ⊢;clear aY a9 hL hB hM e1 e2 e3 e4 e5 bj
    have HO:Hid (∀W,Below W1.heap.size W1 W->W.cell? ⟨xb,0,none⟩=some (.int .i64 co)/\W.cell? ⟨xb,1,none⟩=some (.int .i64 ho)/\W.cell? ⟨xb,2,none⟩=some (.bool g)/\W.cell? ⟨xb,3,none⟩=some (.string nn)/\W.cell? ⟨xb,4,none⟩=some (.string dd)):=fun W h =>
     have h:=ar.out.below h
     ⟨h.c0,h.c1,h.c2,h.c3,h.c4⟩
    have aH:Hid (Below W1.heap.size W1 W1):=Below.refl _ _;have aG:Hid (Below W1.heap.size W1 (W1.alloc (.cells #[.int .i64 0,.int .i64 0] 90))):=(Below.refl _ _).alloc (Nat.le_refl _) _;have au:Hid (Below W1.heap.size W1 (W1.alloc (.cells #[.int .i64 0,.int .i64 0] 90)).drew):=aG.out.drew;have av:Hid (Below W1.heap.size W1 W1.drew):=aH.out.drew;have aT:Hid (Env W1.drew):=hE.out.below (ae.out.trans (av.out.mono ae.out.size));have aS:Hid (Env (W1.alloc (.cells #[.int .i64 0,.int .i64 0] 90)).drew):=hE.out.below (ae.out.trans (au.out.mono ae.out.size));have ba:Hid (Bk (W1.alloc (.cells #[.int .i64 0,.int .i64 0] 90)).drew W1.heap.size 90 [.int .i64 0,.int .i64 0]):=Bk.new W1 90 _;have bo:=ar.out.lt
    go_region_held3 (fun w'=>w'.cell? ⟨xb,0,none⟩=some (.int .i64 co)/\w'.cell? ⟨xb,1,none⟩=some (.int .i64 ho)/\w'.cell? ⟨xb,2,none⟩=some (.bool g)/\w'.cell? ⟨xb,3,none⟩=some (.string nn)/\w'.cell? ⟨xb,4,none⟩=some (.string dd)) (first | (with_reducible exact HO.out _ aH.out) | (with_reducible exact HO.out _ av.out) | (with_reducible exact HO.out _ au.out) | (with_reducible exact HO.out _ aG.out) | (with_reducible exact HO.out _ aa.out) | (with_reducible exact HO.out _ (aa.out.alloc aa.out.size _)) | (with_reducible exact HO.out _ ((aa.out.setCell (Nat.le_refl _) _).setCell (Nat.le_refl _) _)) | go_keep)
     (first
       | (go_at_call 66;refine(ku.out _ ?_).mono ?_;(with_reducible exact aS.out);rintro e w2 ⟨rfl,aq⟩;have ak:=zh (ba.out.below aq);have aa:=zh (au.out.trans (aq.mono au.out.size));have y1:=ak.out.c0;have y2:=ak.out.c1;have y3:=ak.out.frozen 0;have y4:=ak.out.frozen 1;have y5:=ak.out.lt;clear aq)
       | (go_at_call 66;refine(ku.out _ ?_).mono ?_;(with_reducible exact aT.out);rintro e w2 ⟨rfl,aq⟩;have aa:=zh (av.out.trans (aq.mono av.out.size));clear aq))
    all_goals (
     first
      | (obtain⟨kb,ah⟩:∃b,b=w2.heap.size:=⟨_,rfl⟩;obtain⟨w5,ai⟩:∃W,W=w2.alloc (.cells #[.int .i64 co,.int .i64 ho] 90):=⟨_,rfl⟩;rw[<-ai,<-ah];have az:Hid (Bk w5 kb 90 [.int .i64 co,.int .i64 ho]):=(by rw[ai,ah];exact Bk.new w2 _ _);have an:Hid (Below W1.heap.size W1 w5):=(by rw[ai];exact aa.out.alloc aa.out.size _);have a0:W1.heap.size<=kb:=(by rw[ah];exact aa.out.size))
      | (obtain⟨kb,ah⟩:∃b,b=W1.heap.size:=⟨_,rfl⟩;obtain⟨w5,ai⟩:∃W,W=(w2.setCell ⟨W1.heap.size,0,none⟩ (.int .i64 co)).setCell ⟨W1.heap.size,1,none⟩ (.int .i64 ho):=⟨_,rfl⟩;rw[<-ai,<-ah];have az:Hid (Bk w5 kb 90 [.int .i64 co,.int .i64 ho]):=(by rw[ai,ah];exact(ak.out.set 0 _).set 1 _);have an:Hid (Below W1.heap.size W1 w5):=(by rw[ai];exact(aa.out.setCell (Nat.le_refl _) _).setCell (Nat.le_refl _) _);have a0:W1.heap.size<=kb:=(by rw[ah];exact Nat.le_refl _);clear ak y1 y2 y3 y4 y5)
     clear ai ah aa av au aG ba aT aS aH;have aP:=zh (ar.out.below an.out);have aV:=zh (hL1.out.below an.out);have aJ:=zh (aI.out.below an.out);have aE:=zh (ae.out.trans (an.out.mono ae.out.size));have bs:xb<kb:=by omega
     clear HO ar hL1 aI ae an bo a0;have aC:=E5 Tryz.underlying3 i1 i2;have aB:=aJ.out.look F3 Tryz.underlying88 (UB _) aC;rw[hf.out co,<-am.out]at aB;obtain⟨w6,a5,aK,ay⟩:=aJ.out.put Gn F3 Tryz.underlying88 (by unfold maxLen;omega) aC (.int .i64 ((sk:Int)+(p:Int)));have u1:=aP.out.c0;have u2:=az.out.c0;have u3:=az.out.c1;have s0:(0:Int)<=(sk:Int)+(p:Int):=by omega
     go_upto_region 7 with(fail)
     have a8:some xb≠some w.heap.size:=fun e=>by have:=Option.some.inj e;omega
     have a2:some kb≠some w.heap.size:=fun e=>by have:=Option.some.inj e;omega
     have a3:some (w.heap.size+1)≠some w.heap.size:=fun e=>by have:=Option.some.inj e;omega
     have bn:=zh (aP.out.grown ay a8);have aA:=zh (az.out.grown ay a2);have ad:=zh (aV.out.grown ay a3);have aF:Hid (Below w.heap.size w w6):=aE.out.grown ay aE.out.size (fun b e=>by cases e;exact Nat.le_refl _);have d:=aK.look F3 Tryz.underlying88 (UB _) aC;rw[Cb]at d;replace d:(Instr.lookup 88 (.map (some w.heap.size)) (.int .i64 co) false).run Tryz.prog w6=.ok (.int .i64 ((sk:Int)+(p:Int))) w6:=d
     have bh:Hid (T4 w6 w.heap.size l (k+1)):=by
      refine⟨_,_,aK,by split<;>omega,fun y=>?_⟩
      by_cases e:y=co
      · rw[e,Cb,aj.out];rfl
      · rw[BT e,hf.out y,ao.out y,if_neg fun c=>e c.symm,Nat.add_zero]
     have n1:=(aF.out.cell (p:=⟨nb,0,none⟩) bm).trans aD.out;have a1:Hid (w.heap.size+1≠kb):=fun e=>by omega
     clear a5 aB aC aP az aV aJ aE aK ay u1 u2 u3 a8 a2 a3 hf;have u1:=bn.out.c0;have u2:=aA.out.c0;have u3:=aA.out.c1;have u4:=ad.out.c0;have u5:=ad.out.c1;have u6:=ad.out.frozen 0;have u7:=ad.out.frozen 1;have u8:=ad.out.lt;have u9:=aA.out.lt;clear u6 u7;obtain⟨r,hr⟩:∃r:Bool,r=decide (lc<co∨(lc=co/\lh<ho)):=⟨_,rfl⟩;obtain⟨q,hq⟩:∃q:Bool,q=decide (co<0∨(n:Int)<=co∨ho<0∨(n:Int)<=ho∨co=ho∨r=false∨p=0∨6000<sk+p):=⟨_,rfl⟩;have al:(Instr.lookup 88 (.map (some w.heap.size)) (.int .i64 co) false).run Tryz.prog w6=.ok (.int .i64 ((sk+p:Nat):Int)) w6:=d;replace hr:=zh hr;replace hq:=zh hq;clear d;refine VU kb (w.heap.size+1) co ho lc lh r hr.out w6 u2 u3 u4 u5 ?_;intro u33 u34 u35 u36 u37 u38 u39 u40 u41 u42 u43 u44 u45 u46 u47 u48 u49 u50 u51
     go_upto_region 8 with(fail)
     refine VV xb kb nb w.heap.size n p (sk+p) co ho r q hq.out w6 aO (by omega) hn u1 u2 u3 n1 al ?_;intro bu bv bw bx bz bA bB bC bD bE bF bG bH bI bJ bK bL bM bN bO bP bQ bR bS bT bU bW bX bY bZ b0 b1 b2 b3 b4 b5 b6 b7 b8 b9 ca;clear u1 u2 u3 u4 u5 n1 al s0 aO a6 i0 i5
     cases q with
     | true =>
       have HG:Hid (ED n l=false):=aw.out fun h=>by
        have h2:=af.out.1 h;have h3:=hq.out;have h4:=of_decide_eq_true h3.symm;have h5:=h2.2.2;rw[aj.out]at h5;have h6:=(ag.out h2.1.1.1).1 h2.2.1;have h7:r=true:=by rw[hr.out];exact decide_eq_true h6
        rw[h7]at h4;obtain⟨⟨d1,d2⟩,⟨d3,d4⟩,d5,d6⟩:=h2.1
        rcases h4 with c | c | c | c | c | c | c | c
        · omega
        · omega
        · omega
        · omega
        · exact d5 c
        · cases c
        · exact d6 c
        · omega
       clear hq hr af ag aj aw;go_wp2;go_ret;exact⟨Ak HG.out.symm,aF.out⟩
     | false =>
       have aN:Hid (¬(co<0∨(n:Int)<=co∨ho<0∨(n:Int)<=ho∨co=ho∨r=false∨p=0∨6000<sk+p)):=of_decide_eq_false hq.out.symm
       have a4:Hid (lc<co∨(lc=co/\lh<ho)):=by
        have h:=hr.out
        have h1:r=true:=by
         cases r
         · exact absurd (.inr (.inr (.inr (.inr (.inr (.inl rfl)))))) aN.out
         · rfl
        rw[h1]at h;have h9:lc<co∨(lc=co/\lh<ho):=of_decide_eq_true h.symm;exact h9
       have HN:Hid (∀i (h:i<l.length),i<k+1->CG n l i h):=aQ.out (af.out.2 (by
        have h:=aN.out;refine⟨⟨⟨by omega,by omega⟩,⟨by omega,by omega⟩,fun c=>h (.inr (.inr (.inr (.inr (.inl c))))),by omega⟩,(ag.out (by omega)).2 a4.out,by rw[aj.out];omega⟩))
       have bg:Hid (Bk ((w6.setCell ⟨w.heap.size+1,0,none⟩ (.int .i64 co)).setCell ⟨w.heap.size+1,1,none⟩ (.int .i64 ho)) (w.heap.size+1) 90 [.int .i64 (DZ l (k+1)),.int .i64 (EE l (k+1))]):=by rw[ax.out.1,ax.out.2];exact(ad.out.set 0 _).set 1 _
       have bd:Hid (Below w.heap.size w ((w6.setCell ⟨w.heap.size+1,0,none⟩ (.int .i64 co)).setCell ⟨w.heap.size+1,1,none⟩ (.int .i64 ho))):=(aF.out.setCell (p:=⟨w.heap.size+1,0,none⟩) (Nat.le_succ _) _).setCell (p:=⟨w.heap.size+1,1,none⟩) (Nat.le_succ _) _
       have bi:Hid (T4 ((w6.setCell ⟨w.heap.size+1,0,none⟩ (.int .i64 co)).setCell ⟨w.heap.size+1,1,none⟩ (.int .i64 ho)) w.heap.size l (k+1)):=by
        obtain⟨c,f,h1,h2⟩:=bh.out;exact⟨c,f,(h1.set (a:=⟨w.heap.size+1,0,none⟩) (Nat.ne_of_lt (Nat.lt_succ_self _)) _).set (a:=⟨w.heap.size+1,1,none⟩) (Nat.ne_of_lt (Nat.lt_succ_self _)) _,h2⟩
       clear hq hr af ag aj aw aN a4 aQ;have u2:=aA.out.c0;have u3:=aA.out.c1;have u4:=ad.out.c0;have u5:=ad.out.c1;have u6:=ad.out.frozen 0;have u7:=ad.out.frozen 1;have br:=a1.out;go_wp2
       go_roundw
       case rel=>exact⟨k+1,by omega,by go_num,bd,bi,bg,HN⟩
       case measure=>simp[intOf];omega)
  · obtain rfl:k=l.length:=by omega
    have HG:=zh (be.out fun i h=>hA.out i h h);go_wp2;go_ret;exact⟨Ak HG.out.symm,hB.out⟩
end Ci
end
section
open Go.RowKit Go.Shelf
namespace Ci
open Nt
structure StIn (w:World) (s:SR) (Ap Ac Av:Option Addr):Prop where
 ps:InStr w Ap s.ps
 cap:InLk w Ac s.cap
 vot:InLk w Av s.vot
 np:s.ps.length<=140737488355328
 nc:s.cap.length<=140737488355328
 nv:s.vot.length<=140737488355328
 zp:∀x,x∈s.ps->x.size<=140737488355328
 zc:∀x,x∈s.cap->x.2.2.2.1.size<=140737488355328/\x.2.2.2.2.size<=140737488355328
 zv:∀x,x∈s.vot->x.2.2.2.1.size<=140737488355328/\x.2.2.2.2.size<=140737488355328
 ic:∀x,x∈s.cap->(-9223372036854775808<=x.1/\x.1<=9223372036854775807)/\(-9223372036854775808<=x.2.1/\x.2.1<=9223372036854775807)
 iv:∀x,x∈s.vot->(-9223372036854775808<=x.1/\x.1<=9223372036854775807)/\(-9223372036854775808<=x.2.1/\x.2.1<=9223372036854775807)
theorem StIn.below {w w':World} {s:SR} {Ap Ac Av:Option Addr} (h:StIn w s Ap Ac Av) (hb:Below w.heap.size w w'):StIn w' s Ap Ac Av :=
 ⟨h.ps.below hb,h.cap.below hb,h.vot.below hb,h.np,h.nc,h.nv,h.zp,h.zc,h.zv,h.ic,h.iv⟩
theorem T6 (t:TypeId) (a b:ByteArray):binOp .leq t (.string a) (.string b)=pure (.bool (O4 a b)):=by simp[binOp,Op.stringOp,O4]
abbrev SC (s:SR) (Ap Ac Av:Option Addr) (cp cc cv:Nat):List Value:=[.slice Ap s.ps.length cp,.slice Ac s.cap.length cc,.slice Av s.vot.length cv]
theorem Ea (s:SR) (Ap Ac Av:Option Addr) (cp cc cv:Nat) (w:World) (hE:Env w) (hs:StIn w s Ap Ac Av) :
 Calls Tryz.prog 27 #[.agg #[.slice Ap s.ps.length cp,.slice Ac s.cap.length cc,.slice Av s.vot.length cv]] w fun e w'=>e=.returned (.bool (At s))/\Below w.heap.size w w':=by
 have am:=hs.np;have ax:=zh (fun(k:Nat) (h:k<s.ps.length) (hb:¬DP s.ps k h)=>O5 (l:=s.ps) h hb);have aw:=zh (O6 (l:=s.ps));have ay:Hid (Bk (w.alloc (.cells #[.slice Ap s.ps.length cp,.slice Ac s.cap.length cc,.slice Av s.vot.length cv] 25)) w.heap.size 25 (SC s Ap Ac Av cp cc cv)):=Bk.new w _ _;have av:Hid (Below w.heap.size w (w.alloc (.cells #[.slice Ap s.ps.length cp,.slice Ac s.cap.length cc,.slice Av s.vot.length cv] 25))):=(Below.refl _ w).alloc (Nat.le_refl _) _;have kg:=zh (fun A cap nb l W hE hl h1 h2 h3 h4 h5=>QS A cap s.ps.length nb l W hE hl h1 h2 h3 h4 h5);replace hE:=zh hE;replace hs:=zh hs;go_enter Tryz.func27,Tryz.ntmps27;go_wp2
 go_loopw [10] (fun i wr=>∃k:Nat,k<=s.ps.length/\i=.int .i64 (k:Int)/\Hid (Below w.heap.size w wr)/\Hid (Bk wr w.heap.size 25 (SC s Ap Ac Av cp cc cv))/\Hid (∀i (h:i<s.ps.length),i<k->DP s.ps i h)) (fun i _=>s.ps.length-(intOf i).toNat)
 case atStart=>exact⟨0,Nat.zero_le _,rfl,av,ay,fun i _ h=>absurd h (Nat.not_lt_zero _)⟩
 case round =>
  obtain⟨k,hk,rfl,hB,hX,hA⟩:=hrel;clear ay av
  by_cases hlt:k<s.ps.length
  · obtain ⟨b,o,rfl,az,hc⟩:=(hs.out.below hB.out).ps (by omega);have e1:=hc k hlt;have e0:Hid (0<k->wr.cell? ⟨b,o+(k-1),none⟩=some (.string (s.ps[k-1]'(by omega)))):=fun h=>hc (k-1) (by omega);have zx:=hs.out.zp s.ps[k] (List.getElem_mem hlt);have al:=zh (ax.out k hlt)
    have ah:Hid (DP s.ps k hlt->∀i (h:i<s.ps.length),i<k+1->DP s.ps i h):=fun h i hi h2=>by
     by_cases e:i=k
     · subst e;exact h
     · exact hA.out i hi (by omega)
    have a:Hid (DP s.ps k hlt↔Bj s.ps[k]=true/\(0<k->O4 s.ps[k] (s.ps[k-1]'(by omega))=false)):=Iff.rfl;obtain⟨nm,au⟩:∃x,x=s.ps[k]:=⟨_,rfl⟩;rw[<-au]at e1 zx a;replace au:=zh au;have u0:=hX.out.c0;have u9:=hX.out.lt;have i0:(0:Int)<=(k:Int):=by omega
    have i1:(k:Int)<(s.ps.length:Int):=by omega
    have kn:=Mc nm;clear hc
    cases aa:Bj nm with
    | false =>
      have HG:Hid (At s=false):=by
       have:Hw s.ps=false:=al.out fun h=>by have:=(a.out.1 h).1;rw[aa]at this;cases this
       unfold Hid At;rw[this];rfl
      rw[aa]at kn;replace kn:=zh kn;clear aa a ah
      go_wp2_with fail
      refine(kn.out _ (by omega)).mono ?_;rintro e w2 ⟨rfl,hb⟩;have ae:=zh (hB.out.trans (hb.mono hB.out.size));clear hb;go_wp2;go_ret;exact⟨Ak HG.out.symm,ae.out⟩
    | true =>
      rw[aa]at kn;replace kn:=zh kn
      by_cases hk0:k=0
      · have m1:decide (0<(k:Int))=false:=decide_eq_false (by omega);have m2:decide (0<k)=false:=decide_eq_false (by omega);have HN:=zh (ah.out (a.out.2 ⟨aa,fun h=>by omega⟩));replace hk0:=zh hk0;clear aa a ah al
        go_wp2_with fail
        refine(kn.out _ (by omega)).mono ?_;rintro e w2 ⟨rfl,hb⟩;have ae:=zh (hB.out.trans (hb.mono hB.out.size));have ad:=zh (hX.out.below hb);clear hb e1 u0 u9;go_wp2
        go_roundw
        case rel=>exact⟨k+1,by omega,by go_num,ae,ad,HN⟩
        case measure=>simp[intOf];omega
      · have m1:decide (0<(k:Int))=true:=decide_eq_true (by omega);have m2:decide (0<k)=true:=decide_eq_true (by omega);have e2:=e0.out (by omega);obtain⟨pm,ao⟩:∃x,x=s.ps[k-1]'(by omega):=⟨_,rfl⟩;rw[<-ao]at e2
        have af:Hid (DP s.ps k hlt↔Bj nm=true/\O4 nm pm=false):=by
         rw[ao];exact⟨fun h=>⟨(a.out.1 h).1,(a.out.1 h).2 (by omega)⟩,fun h=>a.out.2 ⟨h.1,fun _=>h.2⟩⟩
        replace ao:=zh ao;have aq:=T6 9 nm pm;have j1:(0:Int)<=(k:Int)-1:=by omega
        have j2:(k:Int)-1<(s.ps.length:Int):=by omega
        have j3:((k:Int)-1).toNat=k-1:=by omega
        cases ak:O4 nm pm with
        | true =>
          have HG:Hid (At s=false):=by
           have:Hw s.ps=false:=al.out fun h=>by have:=(af.out.1 h).2;rw[ak]at this;cases this
           unfold Hid At;rw[this];rfl
          rw[ak]at aq;clear aa a ah af ak e0 al
          go_wp2_with fail
          refine(kn.out _ (by omega)).mono ?_;rintro e w2 ⟨rfl,hb⟩;have ae:=zh (hB.out.trans (hb.mono hB.out.size));have ad:=zh (hX.out.below hb);replace e2:=(hb.cell (p:=⟨b,o+(k-1),none⟩) az).trans e2;clear hb e1 u0 u9;have u0:=ad.out.c0;have u9:=ad.out.lt;go_wp2;go_ret;exact⟨Ak HG.out.symm,ae.out⟩
        | false =>
          have HN:=zh (ah.out (af.out.2 ⟨aa,ak⟩));rw[ak]at aq;clear aa a ah af ak e0 al
          go_wp2_with fail
          refine(kn.out _ (by omega)).mono ?_;rintro e w2 ⟨rfl,hb⟩;have ae:=zh (hB.out.trans (hb.mono hB.out.size));have ad:=zh (hX.out.below hb);replace e2:=(hb.cell (p:=⟨b,o+(k-1),none⟩) az).trans e2;clear hb e1 u0 u9;have u0:=ad.out.c0;have u9:=ad.out.lt;go_wp2
          go_roundw
          case rel=>exact⟨k+1,by omega,by go_num,ae,ad,HN⟩
          case measure=>simp[intOf];omega
  · obtain rfl:k=s.ps.length:=by omega
    have ag:=aw.out fun i h=>hA.out i h h
    have HG:Hid (At s=(decide (s.ps.length<=60)&&(ED s.ps.length s.cap&&ED s.ps.length s.vot))):=by
     unfold Hid At;rw[ag];rfl
    clear ag hA aw ax;have u0:=hX.out.c0;have u1:=hX.out.c1;have u2:=hX.out.c2;have u9:=hX.out.lt;have aC:=zh (hX.out.alloc (.cells #[.int .i64 (s.ps.length:Int)] 3));have ar:Hid (Bk (wr.alloc (.cells #[.int .i64 (s.ps.length:Int)] 3)) wr.heap.size 3 [.int .i64 (s.ps.length:Int)]):=Bk.new wr _ _;have d:=zh (hB.out.alloc hB.out.size (.cells #[.int .i64 (s.ps.length:Int)] 3))
    by_cases h60:s.ps.length<=60
    · cases aj:ED s.ps.length s.cap with
      | false =>
        have kc:=zh (kg.out Ac cc wr.heap.size s.cap _ (hE.out.below d.out) (hs.out.below d.out).cap hs.out.nc am (ar.out.c0) hs.out.zc hs.out.ic);rw[aj]at kc;rw[aj,Bool.false_and,Bool.and_false]at HG;replace HG:=zh HG.out;clear aj kg
        go_wp2_with fail
        refine kc.out.mono ?_;rintro e w4 ⟨rfl,hb⟩;have ai:=zh (d.out.trans (hb.mono d.out.size));clear hb;go_wp2;go_ret;exact⟨Ak HG.out.symm,ai.out⟩
      | true =>
        have kc:=zh (kg.out Ac cc wr.heap.size s.cap _ (hE.out.below d.out) (hs.out.below d.out).cap hs.out.nc am (ar.out.c0) hs.out.zc hs.out.ic);have kv:=zh (fun W h1 h2 h3=>kg.out Av cv wr.heap.size s.vot W h1 h2 hs.out.nv am h3 hs.out.zv hs.out.iv);rw[aj]at kc;rw[aj,Bool.true_and,decide_eq_true h60,Bool.true_and]at HG;replace HG:=zh HG.out;clear aj kg
        go_wp2_with fail
        refine kc.out.mono ?_;rintro e w4 ⟨rfl,hb⟩;have ai:=zh (d.out.trans (hb.mono d.out.size));have an:=zh (aC.out.below hb);have aB:=zh (ar.out.below hb);clear hb u0 u1 u2 u9;have u0:=an.out.c0;have u1:=an.out.c1;have u2:=an.out.c2;have u9:=an.out.lt
        go_wp2_with fail
        refine(kv.out _ (hE.out.below ai.out) (hs.out.below ai.out).vot (aB.out.c0)).mono ?_;rintro e w5 ⟨rfl,hb⟩;have aA:=zh (ai.out.trans (hb.mono ai.out.size));clear hb;go_wp2;go_ret;exact⟨Ak (by rw[HG.out]),aA.out⟩
    · have m1:decide ((s.ps.length:Int)<=60)=false:=decide_eq_false (by omega);have m2:decide (s.ps.length<=60)=false:=decide_eq_false h60;rw[m2,Bool.false_and]at HG;replace HG:=zh HG.out;go_wp2;go_ret;exact⟨Ak HG.out.symm,d.out⟩
end Ci
end
section
open Go.ChangeShapes Go.WideShapes Go.ChangeAt Go.RowKit Go.Shelf Go.Joins Go.Deep
namespace Ci
open Nt
section
variable {H:Type}
theorem Dy {P:Program} {e:TypeId} {d:DataW H}:∀{l:List (DataW H)},d∈l->∀m∈d.weights P e,m∈DataW.weightsAll P e l:=by
 intro l
 induction l with
 | nil=>intro h;cases h
 | cons a l ih =>
   intro h m hm;rw[DataW.weightsAll,List.mem_append]
   rcases List.mem_cons.1 h with rfl | h
   · exact .inl hm
   · exact .inr (ih h m hm)
theorem CP {enc:TypeId×Value->H} {P:Program} {W W':World} {base:Nat} {sp':Nat->Bool} (hl:laidOutB P=true):∀{ts:List TypeId} {vs:List Value} {ds:List (DataW H)} {ps:List MemPlace},
 (∀t∈ts,P.readableRec t=true/\t<P.types.size)->DataW.TrodAll enc P W base (fun _=>true) true ts vs ds ps->(∀p∈ps,W.sameAt W' p)->(∀p∈ps,sp' p.block=true)->DataW.TrodAll enc P W' base sp' true ts vs ds ps
 | [],[],[],_,_,h,_,_=>h
 | _ :: _,_::_,_::_,_,hT,⟨p,q,h1,h2,e⟩,hs,hb =>
   ⟨p,q,WideElems.Trod_stays hl (hT _ (List.mem_cons.2 (.inl rfl))).1 (hT _ (List.mem_cons.2 (.inl rfl))).2 h1 (fun x hx=>hs x (by rw[e];exact List.mem_append_left _ hx)) (fun x hx=>hb x (by rw[e];exact List.mem_append_left _ hx)),
     CP hl (fun t ht=>hT t (List.mem_cons.2 (.inr ht))) h2 (fun x hx=>hs x (by rw[e];exact List.mem_append_right _ hx)) (fun x hx=>hb x (by rw[e];exact List.mem_append_right _ hx)),e⟩
theorem FM {ts:List TypeId} {ds:List (DataW H)} {j:Nat} {t:TypeId} {d:DataW H} (a:(DataW.weightsEach Tryz.prog ts ds).all (·<=reachBytes)=true) (ht:ts[j]? = some t) (hd:ds[j]? = some d):∀m∈d.weights Tryz.prog t,m<=140737488351232:=fun m hm =>
 of_decide_eq_true (List.all_eq_true.1 a _ (DataW.weights_mem_each (P:=Tryz.prog) ht hd m hm))
theorem FN {α:Type} {f:α->DataW H} {l:List α} {d:DataW H} {t e:TypeId} (ht:Tryz.prog.underlying t=some (.slice e)) (hb:0<Tryz.prog.bytesOf e) (h:I8 f l d) (hw:∀m∈d.weights Tryz.prog t,m<=140737488351232) :
 l.length<=140737488355328/\∀x∈l,∀m∈(f x).weights Tryz.prog e,m<=140737488351232:=by
 rcases h with⟨_,rfl⟩ | ⟨rest,rfl⟩
 · exact⟨by simp,fun x h=>absurd h (by simp)⟩
 · have e1:(DataW.slice (l.map f) rest).weights Tryz.prog t=((l.map f).length+rest.length)*Tryz.prog.bytesOf e::(DataW.weightsAll Tryz.prog e (l.map f)++DataW.weightsAll Tryz.prog e rest):=by
    simp[DataW.weights,ht]
   rw[e1]at hw;have h1:=hw _ (List.mem_cons_self ..);rw[List.length_map]at h1;refine⟨?_,fun x hx m hm=>hw _ (List.mem_cons_of_mem _ (List.mem_append_left _ (Dy (List.mem_map_of_mem (f:=f) hx) m hm)))⟩;have h2:l.length<=(l.length+rest.length)*Tryz.prog.bytesOf e:=Nat.le_trans (Nat.le_add_right _ _) (Nat.le_mul_of_pos_right _ hb);omega
theorem QT {x:ByteArray} (h:∀m∈(QM (H:=H) x).weights Tryz.prog 9,m<=140737488351232):x.size<=140737488355328:=by
 have h1:=h x.data.toList.length (by simp[QM,DataW.weights]);have z1:x.size=x.data.toList.length:=Lib.size_eq _;omega
theorem NA {x:Lk} (h:∀m∈(lkD (H:=H) x).weights Tryz.prog 59,m<=140737488351232):x.2.2.2.1.size<=140737488355328/\x.2.2.2.2.size<=140737488355328:=by
 have h1:=h x.2.2.2.1.data.toList.length (by simp[lkD,DataW.weights,DataW.weightsEach,Tryz.underlying59,Tryz.underlying40]);have h2:=h x.2.2.2.2.data.toList.length (by simp[lkD,DataW.weights,DataW.weightsEach,Tryz.underlying59,Tryz.underlying40]);have z1:x.2.2.2.1.size=x.2.2.2.1.data.toList.length:=Lib.size_eq _;have z2:x.2.2.2.2.size=x.2.2.2.2.data.toList.length:=Lib.size_eq _;omega
end
section
variable {H:Type} {enc:TypeId×Value->H} {w:World} {base:Nat} {held:Bool}
def Vf (s:SR) (d:DataW H):Prop:=∃dp dc dv,d=.agg [dp,dc,dv]/\I8 QM s.ps dp/\I8 lkD s.cap dc/\I8 lkD s.vot dv
theorem QU:Tryz.prog.cellsOf 25=3:=by kernel_rfl
theorem QV {r:Go.Reach} {b0:Nat} {v:Value} {d:DataW H} {p:List MemPlace} (hv:Value.okWide Tryz.prog w r b0 25 v) (h:DataW.Trod enc Tryz.prog w base (fun _=>true) held 25 v d p) :
 ∃(Ap Ac Av:Option Addr) (cp cc cv:Nat) (s:SR),v=.agg #[.slice Ap s.ps.length cp,.slice Ac s.cap.length cc,.slice Av s.vot.length cv]/\Vf s d/\InStr w Ap s.ps/\InLk w Ac s.cap/\InLk w Av s.vot/\(∀y,y∈s.cap->D9 y.1/\D9 y.2.1)/\(∀y,y∈s.vot->D9 y.1/\D9 y.2.1)/\s.cap.length<=cc:=by
 obtain⟨c0,c1,c2,y0,y1,y2,m,rfl,rfl,_,a,aa,ad⟩:=open_agg3 Tryz.underlying25 (by kernel_rfl) QU hv h;obtain⟨Ap,cp,ps,e0,i0,m0⟩:=Mb a;obtain⟨Ac,cc,cap,e1,i1,m1,z1,k1⟩:=IT aa;obtain⟨Av,cv,vot,e2,i2,m2,z2⟩:=QO ad;simp only[List.cons.injEq,and_true]at e0 e1 e2;subst e0 e1 e2;exact⟨Ap,Ac,Av,cp,cc,cv,⟨ps,cap,vot⟩,rfl,⟨_,_,_,rfl,i0,i1,i2⟩,m0,m1,m2,z1,z2,k1⟩
theorem T7 {r:Go.Reach} {b0:Nat} {v:Value} {d:DataW H} {p:List MemPlace} (hv:Value.okWide Tryz.prog w r b0 25 v) (h:DataW.Trod enc Tryz.prog w base (fun _=>true) held 25 v d p) :
 ∃(Ap Ac Av:Option Addr) (cp cc cv:Nat) (s:SR),v=.agg #[.slice Ap s.ps.length cp,.slice Ac s.cap.length cc,.slice Av s.vot.length cv]/\Vf s d/\InStr w Ap s.ps/\InLk w Ac s.cap/\InLk w Av s.vot/\(∀y,y∈s.cap->D9 y.1/\D9 y.2.1)/\∀y,y∈s.vot->D9 y.1/\D9 y.2.1:=by
 obtain⟨Ap,Ac,Av,cp,cc,cv,s,h1,h2,h3,h4,h5,h6,h7,_⟩:=QV hv h;exact⟨Ap,Ac,Av,cp,cc,cv,s,h1,h2,h3,h4,h5,h6,h7⟩
theorem T8 {s:SR} {d:DataW H} {Ap Ac Av:Option Addr} (h:Vf s d) (hw:∀m∈d.weights Tryz.prog 25,m<=140737488351232) (m0:InStr w Ap s.ps) (m1:InLk w Ac s.cap) (m2:InLk w Av s.vot)
 (z1:∀y,y∈s.cap->D9 y.1/\D9 y.2.1) (z2:∀y,y∈s.vot->D9 y.1/\D9 y.2.1):StIn w s Ap Ac Av:=by
 obtain⟨dp,dc,dv,rfl,i0,i1,i2⟩:=h
 have e:(DataW.agg [dp,dc,dv]).weights Tryz.prog 25=dp.weights Tryz.prog 22++(dc.weights Tryz.prog 23++dv.weights Tryz.prog 23):=by
  simp[DataW.weights,DataW.weightsEach,Tryz.underlying25]
 rw[e]at hw;obtain⟨a1,a2⟩:=FN Tryz.underlying22 (Nat.lt_of_lt_of_eq (by decide:0<16) (by kernel_rfl)) i0 fun m hm=>hw m (List.mem_append_left _ hm);obtain⟨b1,b2⟩:=FN Tryz.underlying23 (Nat.lt_of_lt_of_eq (by decide:0<56) (by kernel_rfl)) i1 fun m hm=>hw m (List.mem_append_right _ (List.mem_append_left _ hm));obtain⟨c1,c2⟩:=FN Tryz.underlying23 (Nat.lt_of_lt_of_eq (by decide:0<56) (by kernel_rfl)) i2 fun m hm=>hw m (List.mem_append_right _ (List.mem_append_right _ hm));exact⟨m0,m1,m2,a1,b1,c1,fun x hx=>QT (a2 x hx),fun x hx=>NA (b2 x hx),fun x hx=>NA (c2 x hx),z1,z2⟩
theorem Me {r:Go.Reach} {b0:Nat} {v:Value} {d:DataW H} {p:List MemPlace} (hv:Value.okWide Tryz.prog w r b0 26 v) (h:DataW.Trod enc Tryz.prog w base (fun _=>true) held 26 v d p) :
 ∃(A:Option Addr) (cap:Nat) (l:List Int),v=.slice A l.length cap/\I8 T3 l d/\InInt w A l/\∀y,y∈l->D9 y:=by
 obtain⟨a,len,c,rfl⟩:=okWide_slice Tryz.underlying26 hv;obtain⟨n,hn⟩:=h;obtain⟨A,cap,l,e,h1,h2,h3⟩:=Hz hn;refine⟨A,cap,l,?_,h1,h2,h3⟩
 simpa [Value.cells] using e
end
end Ci
end
section
open Go.RowKit Go.Shelf
namespace Nt
def InInt (z:Int):Prop:=-9223372036854775808<=z/\z<=9223372036854775807
end Nt
end
section
open Go.RowKit
namespace Nt
def Dg (k:Nat) (q:Rat):Prop:=q.num.natAbs<10^k/\q.den<10^k
theorem Dg.mono {k m:Nat} {q:Rat} (h:Dg k q) (hk:k<=m):Dg m q:=by
 have:10^k<=10^m:=Nat.pow_le_pow_right (by omega) hk;exact⟨Nat.lt_of_lt_of_le h.1 this,Nat.lt_of_lt_of_le h.2 this⟩
theorem Dg.short {k:Nat} {q:Rat} (h:Dg k q) (hk:k<=140):ShortQ q:=by
 have:=h.mono (m:=mx1) (by rw[DO];exact hk);exact this
theorem H0 (n:Int) (d:Nat) (hd:d≠0):(mkRat n d).num.natAbs<=n.natAbs/\(mkRat n d).den<=d:=by
 have e:n=sg (decide (n<0)) n.natAbs:=(Ck n).symm;rw[e,Q8 _ _ _ hd,Q9 _ _ _ hd,Ca,Ca];exact⟨Nat.div_le_self _ _,Nat.div_le_self _ _⟩
theorem Dg.add {k m:Nat} {p q:Rat} (hp:Dg k p) (hq:Dg m q):Dg (k+m+1) (p+q):=by
 have hd:p.den*q.den≠0:=Nat.mul_ne_zero p.den_nz q.den_nz;have h:=H0 (p.num*q.den+q.num*p.den) (p.den*q.den) hd;rw[JE]at h;have e:10^(k+m+1)=10^k*10^m*10:=by rw[Nat.pow_succ,Nat.pow_add]
 have h1:p.num.natAbs*q.den<10^k*10^m:=Nat.mul_lt_mul'' hp.1 hq.2;have h2:q.num.natAbs*p.den<10^m*10^k:=Nat.mul_lt_mul'' hq.1 hp.2;have h3:p.den*q.den<10^k*10^m:=Nat.mul_lt_mul'' hp.2 hq.2;rw[Nat.mul_comm (10^m)]at h2;have h4:=Int.natAbs_add_le (p.num*q.den) (q.num*p.den);rw[Int.natAbs_mul,Int.natAbs_mul,Int.natAbs_natCast,Int.natAbs_natCast]at h4;unfold Dg;rw[e];generalize 10^k*10^m=X at *;exact⟨by omega,by omega⟩
theorem Dg.neg {k:Nat} {q:Rat} (h:Dg k q):Dg k (-q):=⟨by show (-q.num).natAbs<10^k;rw[Int.natAbs_neg];exact h.1,h.2⟩
theorem Dg.sub {k m:Nat} {p q:Rat} (hp:Dg k p) (hq:Dg m q):Dg (k+m+1) (p-q):=by rw[Rat.sub_eq_add_neg];exact hp.add hq.neg
theorem Dg.mul {k m:Nat} {p q:Rat} (hp:Dg k p) (hq:Dg m q):Dg (k+m) (p*q):=by
 have hd:p.den*q.den≠0:=Nat.mul_ne_zero p.den_nz q.den_nz;have h:=H0 (p.num*q.num) (p.den*q.den) hd;rw[<-Rat.mul_def']at h;have h1:p.num.natAbs*q.num.natAbs<10^k*10^m:=Nat.mul_lt_mul'' hp.1 hq.1;have h3:p.den*q.den<10^k*10^m:=Nat.mul_lt_mul'' hp.2 hq.2;rw[Int.natAbs_mul]at h;unfold Dg;rw[Nat.pow_add];exact⟨by omega,by omega⟩
theorem Dg.div {k m:Nat} {p q:Rat} (hp:Dg k p) (hq:Dg m q) (h0:q≠0):Dg (k+m) (p/q):=by
 have hn:=CT h0;have hd:p.den*q.num.natAbs≠0:=Nat.mul_ne_zero p.den_nz (by omega);have h:=H0 (sg (decide (p.num<0) != decide (q.num<0)) (p.num.natAbs*q.den)) (p.den*q.num.natAbs) hd;rw[QD,Ca]at h;have h1:p.num.natAbs*q.den<10^k*10^m:=Nat.mul_lt_mul'' hp.1 hq.2;have h3:p.den*q.num.natAbs<10^k*10^m:=Nat.mul_lt_mul'' hp.2 hq.1;unfold Dg;rw[Nat.pow_add];exact⟨by omega,by omega⟩
end Nt
end
section
open Go.RowKit Go.Shelf
namespace Nt
abbrev Ws (w:World) (g1:Bool) (n1 d1:ByteArray):World:=w.alloc (.cells #[.bool g1,.string n1,.string d1] 40)
theorem BG (w:World) (g1:Bool) (n1 d1:ByteArray):Below w.heap.size w (Ws w g1 n1 d1):=(Below.refl _ w).alloc (Nat.le_refl _) _
end Nt
end
end Go.Proofs.YtilodknkildkbaaGreatDoor

/- Texts that the proof needs: RatOps, RatOf, RatText, RatWrap, CirWrap, CirNames, CirUnits, CirMap, CirGood7, CirGood, CirWell, CirWrapS, ShaNum, RatFloor, RatDig, RatDuo. -/
import Derived.Lib.IndexMore
import Derived.Shelf.Vars
import Derived.SizedLaws
import Derived.Lib.SmallJoins
import Derived.DataShut
import Derived.WideKeyArgs
import Derived.Deep.Slices
import Derived.Deep.Strs
import Derived.Maps.OwnSet
import Derived.Maps.Views
import Derived.WalkKit
import Derived.IntWalk
import Derived.Deep.RegionHeld3
import Derived.LaidEql
import Derived.Test.YtioidbebjgeahaaGreatDoorKtA
import Derived.Test.YtioidbebjgeahaaGreatDoorKtB
set_option maxHeartbeats 16000000
set_option maxRecDepth 1000000
namespace Go.Proofs.YtioidbebjgeahaaGreatDoor
section
open Go.RowKit Go.Shelf
namespace Nt
theorem size_of_valid {g:Bool} {n d:ByteArray} (h:validB g n d=true):n.size≤300∧d.size≤300:=by
 unfold validB at h;simp only[Bool.and_eq_true]at h;exact⟨size_of_isN h.1,size_of_isN h.2.1⟩
theorem short_sizes {q:Rat} (h:ShortQ q):(T (some q.num.natAbs)).size≤140∧(T (some q.den)).size≤140:=⟨(size_L1 _).2 h.1,(size_L1 _).2 h.2⟩
theorem short_of_sizes {q:Rat} (h1:(T (some q.num.natAbs)).size≤140) (h2:(T (some q.den)).size≤140):ShortQ q:=⟨(size_L1 _).1 h1,(size_L1 _).1 h2⟩
theorem num_ne_zero {q:Rat} (h:q≠0):q.num≠0:=fun e=>h (Rat.num_eq_zero.1 e)
theorem Add_w (g1 g2:Bool) (n1 d1 n2 d2:ByteArray) (r:Bool) (n d:ByteArray) (E:Int) (w:World) (hE:Env w)
 (hr:∀W,Env W→Calls Tryz.prog 64 #[.agg #[.bool false,.func (.func 71) #[] #[]],.agg #[.bool g1,.string n1,.string d1],.agg #[.bool g2,.string n2,.string d2]] W fun e w'=>e=.returned (.tuple #[.agg #[.bool r,.string n,.string d],.int .i64 E])∧Below W.heap.size W w') :
 Calls Tryz.prog 27 #[.agg #[.bool g1,.string n1,.string d1],.agg #[.bool g2,.string n2,.string d2]] w fun e w'=>e=.returned (.tuple #[.agg #[.bool r,.string n,.string d],.int .i64 E])∧Below w.heap.size w w':=by
 have hQE:=Lib.hid (TwoBoxes.new w g1 g2 n1 d1 n2 d2);have hBE:=Lib.hid (twoW_below w g1 g2 n1 d1 n2 d2);replace hE:=Lib.hid hE;replace hr:=Lib.hid hr;go_enter Tryz.func27,Tryz.ntmps27
 go_wp2_with fail
 refine(hr.out _ (hE.out.below hBE.out)).mono ?_;rintro e w1 ⟨rfl,hb1⟩;have q1:=hQE.out.below hb1;have hB1:=Lib.hid (hBE.out.trans (hb1.mono hBE.out.size));obtain⟨c1,c2,c3,c4,c5,c6⟩:=q1.2.2.facts;have hz1:=q1.2.2.lt;clear hb1;replace q1:=Lib.hid q1;go_wp2;refine bodyPost_ret (v:=.tuple #[.agg #[.bool r,.string n,.string d],.int .i64 E]) (by simp[results,Tryz.results27,go_sem,c1,c2,c3]) rfl ⟨rfl,?_⟩
 repeat refine Below.setCell ?_ (by simp only[];omega) _
 exact hB1.out
theorem Add_short (p q:Rat) (hp:ShortQ p) (hq:ShortQ q) (w:World) (hE:Env w) :
 Calls Tryz.prog 27 #[qv p,qv q] w fun e w'=>e=.returned (.tuple #[qv (p+q),.int .i64 0])∧Below w.heap.size w w':=by
 have l1:=short_sizes hp;have l2:=short_sizes hq;refine Add_w _ _ _ _ _ _ _ _ _ _ w hE fun W hW=>?_;exact run_sum _ _ _ _ _ _ W hW (by omega) (by omega) (by omega) (by omega) (valid_qv hp.ok) (valid_qv hq.ok) l1.1 l1.2 l2.1 l2.2 _ _ _ _ fun W2 h2=>sum_q p q hp hq W2 h2
theorem Add_long (p q:Rat) (hp:OkQ p) (hq:OkQ q) (hl:¬(ShortQ p∧ShortQ q)) (w:World) (hE:Env w) :
 Calls Tryz.prog 27 #[qv p,qv q] w fun e w'=>e=.returned (.tuple #[zv,.int .i64 2])∧Below w.heap.size w w':=by
 have v1:=valid_qv hp;have v2:=valid_qv hq;have l1:=size_of_valid v1;have l2:=size_of_valid v2;refine Add_w _ _ _ _ _ _ false ⟨#[]⟩ ⟨#[]⟩ 2 w hE fun W hW=>?_;exact run_long false 71 _ _ _ _ _ _ W hW (by omega) (by omega) (by omega) (by omega) v1 v2 (.inl rfl) fun h=>hl ⟨short_of_sizes h.1 h.2.1,short_of_sizes h.2.2.1 h.2.2.2⟩
theorem Sub_w (g1 g2:Bool) (n1 d1 n2 d2:ByteArray) (r:Bool) (n d:ByteArray) (E:Int) (w:World) (hE:Env w)
 (hr:∀W,Env W→Calls Tryz.prog 64 #[.agg #[.bool false,.func (.func 147) #[] #[]],.agg #[.bool g1,.string n1,.string d1],.agg #[.bool g2,.string n2,.string d2]] W fun e w'=>e=.returned (.tuple #[.agg #[.bool r,.string n,.string d],.int .i64 E])∧Below W.heap.size W w') :
 Calls Tryz.prog 108 #[.agg #[.bool g1,.string n1,.string d1],.agg #[.bool g2,.string n2,.string d2]] w fun e w'=>e=.returned (.tuple #[.agg #[.bool r,.string n,.string d],.int .i64 E])∧Below w.heap.size w w':=by
 have hQE:=Lib.hid (TwoBoxes.new w g1 g2 n1 d1 n2 d2);have hBE:=Lib.hid (twoW_below w g1 g2 n1 d1 n2 d2);replace hE:=Lib.hid hE;replace hr:=Lib.hid hr;go_enter Tryz.func108,Tryz.ntmps108
 go_wp2_with fail
 refine(hr.out _ (hE.out.below hBE.out)).mono ?_;rintro e w1 ⟨rfl,hb1⟩;have q1:=hQE.out.below hb1;have hB1:=Lib.hid (hBE.out.trans (hb1.mono hBE.out.size));obtain⟨c1,c2,c3,c4,c5,c6⟩:=q1.2.2.facts;have hz1:=q1.2.2.lt;clear hb1;replace q1:=Lib.hid q1;go_wp2;refine bodyPost_ret (v:=.tuple #[.agg #[.bool r,.string n,.string d],.int .i64 E]) (by simp[results,Tryz.results108,go_sem,c1,c2,c3]) rfl ⟨rfl,?_⟩
 repeat refine Below.setCell ?_ (by simp only[];omega) _
 exact hB1.out
theorem Sub_short (p q:Rat) (hp:ShortQ p) (hq:ShortQ q) (w:World) (hE:Env w) :
 Calls Tryz.prog 108 #[qv p,qv q] w fun e w'=>e=.returned (.tuple #[qv (p-q),.int .i64 0])∧Below w.heap.size w w':=by
 have l1:=short_sizes hp;have l2:=short_sizes hq;refine Sub_w _ _ _ _ _ _ _ _ _ _ w hE fun W hW=>?_;exact run_sub _ _ _ _ _ _ W hW (by omega) (by omega) (by omega) (by omega) (valid_qv hp.ok) (valid_qv hq.ok) l1.1 l1.2 l2.1 l2.2 _ _ _ _ fun W2 h2=>subc_q p q hp hq W2 h2
theorem Sub_long (p q:Rat) (hp:OkQ p) (hq:OkQ q) (hl:¬(ShortQ p∧ShortQ q)) (w:World) (hE:Env w) :
 Calls Tryz.prog 108 #[qv p,qv q] w fun e w'=>e=.returned (.tuple #[zv,.int .i64 2])∧Below w.heap.size w w':=by
 have v1:=valid_qv hp;have v2:=valid_qv hq;have l1:=size_of_valid v1;have l2:=size_of_valid v2;refine Sub_w _ _ _ _ _ _ false ⟨#[]⟩ ⟨#[]⟩ 2 w hE fun W hW=>?_;exact run_long false 147 _ _ _ _ _ _ W hW (by omega) (by omega) (by omega) (by omega) v1 v2 (.inl rfl) fun h=>hl ⟨short_of_sizes h.1 h.2.1,short_of_sizes h.2.2.1 h.2.2.2⟩
theorem Mul_w (g1 g2:Bool) (n1 d1 n2 d2:ByteArray) (r:Bool) (n d:ByteArray) (E:Int) (w:World) (hE:Env w)
 (hr:∀W,Env W→Calls Tryz.prog 64 #[.agg #[.bool false,.func (.func 63) #[] #[]],.agg #[.bool g1,.string n1,.string d1],.agg #[.bool g2,.string n2,.string d2]] W fun e w'=>e=.returned (.tuple #[.agg #[.bool r,.string n,.string d],.int .i64 E])∧Below W.heap.size W w') :
 Calls Tryz.prog 21 #[.agg #[.bool g1,.string n1,.string d1],.agg #[.bool g2,.string n2,.string d2]] w fun e w'=>e=.returned (.tuple #[.agg #[.bool r,.string n,.string d],.int .i64 E])∧Below w.heap.size w w':=by
 have hQE:=Lib.hid (TwoBoxes.new w g1 g2 n1 d1 n2 d2);have hBE:=Lib.hid (twoW_below w g1 g2 n1 d1 n2 d2);replace hE:=Lib.hid hE;replace hr:=Lib.hid hr;go_enter Tryz.func21,Tryz.ntmps21
 go_wp2_with fail
 refine(hr.out _ (hE.out.below hBE.out)).mono ?_;rintro e w1 ⟨rfl,hb1⟩;have q1:=hQE.out.below hb1;have hB1:=Lib.hid (hBE.out.trans (hb1.mono hBE.out.size));obtain⟨c1,c2,c3,c4,c5,c6⟩:=q1.2.2.facts;have hz1:=q1.2.2.lt;clear hb1;replace q1:=Lib.hid q1;go_wp2;refine bodyPost_ret (v:=.tuple #[.agg #[.bool r,.string n,.string d],.int .i64 E]) (by simp[results,Tryz.results21,go_sem,c1,c2,c3]) rfl ⟨rfl,?_⟩
 repeat refine Below.setCell ?_ (by simp only[];omega) _
 exact hB1.out
theorem Mul_short (p q:Rat) (hp:ShortQ p) (hq:ShortQ q) (w:World) (hE:Env w) :
 Calls Tryz.prog 21 #[qv p,qv q] w fun e w'=>e=.returned (.tuple #[qv (p*q),.int .i64 0])∧Below w.heap.size w w':=by
 have l1:=short_sizes hp;have l2:=short_sizes hq;refine Mul_w _ _ _ _ _ _ _ _ _ _ w hE fun W hW=>?_;exact run_product _ _ _ _ _ _ W hW (by omega) (by omega) (by omega) (by omega) (valid_qv hp.ok) (valid_qv hq.ok) l1.1 l1.2 l2.1 l2.2 _ _ _ _ fun W2 h2=>product_q p q hp hq W2 h2
theorem Mul_long (p q:Rat) (hp:OkQ p) (hq:OkQ q) (hl:¬(ShortQ p∧ShortQ q)) (w:World) (hE:Env w) :
 Calls Tryz.prog 21 #[qv p,qv q] w fun e w'=>e=.returned (.tuple #[zv,.int .i64 2])∧Below w.heap.size w w':=by
 have v1:=valid_qv hp;have v2:=valid_qv hq;have l1:=size_of_valid v1;have l2:=size_of_valid v2;refine Mul_w _ _ _ _ _ _ false ⟨#[]⟩ ⟨#[]⟩ 2 w hE fun W hW=>?_;exact run_long false 63 _ _ _ _ _ _ W hW (by omega) (by omega) (by omega) (by omega) v1 v2 (.inl rfl) fun h=>hl ⟨short_of_sizes h.1 h.2.1,short_of_sizes h.2.2.1 h.2.2.2⟩
theorem Div_w (g1 g2:Bool) (n1 d1 n2 d2:ByteArray) (r:Bool) (n d:ByteArray) (E:Int) (w:World) (hE:Env w)
 (hr:∀W,Env W→Calls Tryz.prog 64 #[.agg #[.bool true,.func (.func 146) #[] #[]],.agg #[.bool g1,.string n1,.string d1],.agg #[.bool g2,.string n2,.string d2]] W fun e w'=>e=.returned (.tuple #[.agg #[.bool r,.string n,.string d],.int .i64 E])∧Below W.heap.size W w') :
 Calls Tryz.prog 106 #[.agg #[.bool g1,.string n1,.string d1],.agg #[.bool g2,.string n2,.string d2]] w fun e w'=>e=.returned (.tuple #[.agg #[.bool r,.string n,.string d],.int .i64 E])∧Below w.heap.size w w':=by
 have hQE:=Lib.hid (TwoBoxes.new w g1 g2 n1 d1 n2 d2);have hBE:=Lib.hid (twoW_below w g1 g2 n1 d1 n2 d2);replace hE:=Lib.hid hE;replace hr:=Lib.hid hr;go_enter Tryz.func106,Tryz.ntmps106
 go_wp2_with fail
 refine(hr.out _ (hE.out.below hBE.out)).mono ?_;rintro e w1 ⟨rfl,hb1⟩;have q1:=hQE.out.below hb1;have hB1:=Lib.hid (hBE.out.trans (hb1.mono hBE.out.size));obtain⟨c1,c2,c3,c4,c5,c6⟩:=q1.2.2.facts;have hz1:=q1.2.2.lt;clear hb1;replace q1:=Lib.hid q1;go_wp2;refine bodyPost_ret (v:=.tuple #[.agg #[.bool r,.string n,.string d],.int .i64 E]) (by simp[results,Tryz.results106,go_sem,c1,c2,c3]) rfl ⟨rfl,?_⟩
 repeat refine Below.setCell ?_ (by simp only[];omega) _
 exact hB1.out
theorem Div_short (p q:Rat) (hp:ShortQ p) (hq:ShortQ q) (h0:q≠0) (w:World) (hE:Env w) :
 Calls Tryz.prog 106 #[qv p,qv q] w fun e w'=>e=.returned (.tuple #[qv (p/q),.int .i64 0])∧Below w.heap.size w w':=by
 have l1:=short_sizes hp;have l2:=short_sizes hq;have hn:=num_ne_zero h0;have hz:=T_is_zero q.num.natAbs;rw[decide_eq_false (by omega)]at hz;refine Div_w _ _ _ _ _ _ _ _ _ _ w hE fun W hW=>?_;exact run_div _ _ _ _ _ _ W hW (by omega) (by omega) (by omega) (by omega) (valid_qv hp.ok) (valid_qv hq.ok) hz l1.1 l1.2 l2.1 l2.2 _ _ _ _ fun W2 h2=>divc_q p q hp hq hn W2 h2
theorem Div_long (p q:Rat) (hp:OkQ p) (hq:OkQ q) (h0:q≠0) (hl:¬(ShortQ p∧ShortQ q)) (w:World) (hE:Env w) :
 Calls Tryz.prog 106 #[qv p,qv q] w fun e w'=>e=.returned (.tuple #[zv,.int .i64 2])∧Below w.heap.size w w':=by
 have v1:=valid_qv hp;have v2:=valid_qv hq;have l1:=size_of_valid v1;have l2:=size_of_valid v2;have hn:=num_ne_zero h0;have hz:=T_is_zero q.num.natAbs;rw[decide_eq_false (by omega)]at hz;refine Div_w _ _ _ _ _ _ false ⟨#[]⟩ ⟨#[]⟩ 2 w hE fun W hW=>?_;exact run_long true 146 _ _ _ _ _ _ W hW (by omega) (by omega) (by omega) (by omega) v1 v2 (.inr ⟨rfl,hz⟩) fun h=>hl ⟨short_of_sizes h.1 h.2.1,short_of_sizes h.2.2.1 h.2.2.2⟩
def cmpQ (p q:Rat):Int:=if p<q then -1 else if p=q then 0 else 1
theorem neg_iff (q:Rat):q.num<0↔q<0:=by
 rw[Rat.lt_iff]
 show _↔q.num*1<0*_
 omega
theorem sub_neg_iff (p q:Rat):(p-q).num<0↔p<q:=by
 rw[neg_iff,Rat.sub_lt_iff,Rat.zero_add]
theorem sub_zero_iff (p q:Rat):p-q=0↔p=q:=by
 constructor
 · intro h;have e:p-q+q=0+q:=congrArg (·+q) h
   rwa [Rat.sub_add_cancel,Rat.zero_add]at e
 · intro h;rw[h];exact Rat.sub_self
theorem Compare_w (g1 g2:Bool) (n1 d1 n2 d2:ByteArray) (r:Bool) (n d:ByteArray) (E c f:Int) (w:World) (hE:Env w)
 (hs:∀W,Env W→Calls Tryz.prog 108 #[.agg #[.bool g1,.string n1,.string d1],.agg #[.bool g2,.string n2,.string d2]] W fun e w'=>e=.returned (.tuple #[.agg #[.bool r,.string n,.string d],.int .i64 E])∧Below W.heap.size W w')
 (hk:(E≠0∧c=0∧f=E)∨(E=0∧r=true∧c=-1∧f=0)∨(E=0∧r=false∧(n.toList==[48])=true∧c=0∧f=0)∨(E=0∧r=false∧(n.toList==[48])=false∧c=1∧f=0)) :
 Calls Tryz.prog 68 #[.agg #[.bool g1,.string n1,.string d1],.agg #[.bool g2,.string n2,.string d2]] w fun e w'=>e=.returned (.tuple #[.int .i64 c,.int .i64 f])∧Below w.heap.size w w':=by
 have hBE:Hid (Below w.heap.size w ((w.alloc (.cells #[.bool g1,.string n1,.string d1] 37)).alloc (.cells #[.bool g2,.string n2,.string d2] 37))):=((Below.refl _ w).alloc (Nat.le_refl _) _).alloc (by simp) _;replace hE:=Lib.hid hE;replace hs:=Lib.hid hs
 rcases hk with⟨h1,rfl,rfl⟩ | ⟨rfl,rfl,rfl,rfl⟩ | ⟨rfl,rfl,h1,rfl,rfl⟩ | ⟨rfl,rfl,h1,rfl,rfl⟩
 rotate_left
 all_goals
  go_enter Tryz.func68,Tryz.ntmps68
  go_wp2_with fail
  refine(hs.out _ (hE.out.below hBE.out)).mono ?_;rintro e w1 ⟨rfl,hb1⟩;have hB1:=Lib.hid (hBE.out.trans (hb1.mono hBE.out.size));clear hb1;go_wp2;go_ret2;exact⟨rfl,hB1.out.alloc hB1.out.size _⟩
theorem Compare_short (p q:Rat) (hp:ShortQ p) (hq:ShortQ q) (w:World) (hE:Env w) :
 Calls Tryz.prog 68 #[qv p,qv q] w fun e w'=>e=.returned (.tuple #[.int .i64 (cmpQ p q),.int .i64 0])∧Below w.heap.size w w':=by
 refine Compare_w _ _ _ _ _ _ _ _ _ 0 (cmpQ p q) 0 w hE (fun W hW=>Sub_short p q hp hq W hW) ?_;unfold cmpQ;rw[T_is_zero]
 by_cases h1:p<q
 · exact .inr (.inl ⟨rfl,decide_eq_true ((sub_neg_iff p q).2 h1),if_pos h1,rfl⟩)
 · have hn:=(not_congr (sub_neg_iff p q)).2 h1;rw[if_neg h1]
   by_cases h2:p=q
   · refine .inr (.inr (.inl ⟨rfl,decide_eq_false hn,?_,if_pos h2,rfl⟩));rw[(sub_zero_iff p q).2 h2];rfl
   · refine .inr (.inr (.inr ⟨rfl,decide_eq_false hn,?_,if_neg h2,rfl⟩));have h3:=num_ne_zero (fun h=>h2 ((sub_zero_iff p q).1 h));exact decide_eq_false (by omega)
theorem Compare_long (p q:Rat) (hp:OkQ p) (hq:OkQ q) (hl:¬(ShortQ p∧ShortQ q)) (w:World) (hE:Env w) :
 Calls Tryz.prog 68 #[qv p,qv q] w fun e w'=>e=.returned (.tuple #[.int .i64 0,.int .i64 2])∧Below w.heap.size w w' :=
 Compare_w _ _ _ _ _ _ _ _ _ 2 0 2 w hE (fun W hW=>Sub_long p q hp hq hl W hW) (.inl ⟨by omega,rfl,rfl⟩)
end Nt
end
section
open Go.RowKit Go.Shelf
namespace Nt
theorem trim_minus (n:Int):Lib.trimPrefix (Lib.itoa n) [45]=Lib.decDigits n.natAbs:=by
 unfold Lib.itoa
 by_cases h:n<0
 · rw[if_pos h];simp[Lib.trimPrefix,Lib.hasPrefix]
 · rw [if_neg h];have e:n.toNat=n.natAbs:=by omega
   rw[e];unfold Lib.trimPrefix Lib.hasPrefix;rw[if_neg];intro hp;have hd:=decDigits_dig n.natAbs
   cases hl:Lib.decDigits n.natAbs with
   | nil=>exact decDigits_ne _ hl
   | cons c r =>
     rw[hl]at hp hd;simp at hp;have:=(hd c (by simp)).1;rw[←hp]at this;revert this;decide
theorem size_any (n:Int) (h0:-9223372036854775808≤n) (h1:n≤9223372036854775807) (w:World) (hE:Env w) :
 Calls Tryz.prog 121 #[.int .i64 n] w fun e w'=>e=.returned (.string (T (some n.natAbs)))∧Below w.heap.size w w':=by
 have hi:=itoa_any n h0 h1 w hE.tab;have ht:=fun W=>Tryz.strings_TrimPrefix ⟨(Lib.itoa n).toArray⟩ ⟨#[45]⟩ W
 have e:(⟨(Lib.trimPrefix (⟨(Lib.itoa n).toArray⟩:ByteArray).data.toList (⟨#[45]⟩:ByteArray).data.toList).toArray⟩:ByteArray)=T (some n.natAbs):=by
  show (⟨(Lib.trimPrefix (Lib.itoa n) [45]).toArray⟩:ByteArray)=_
  rw[trim_minus];rfl
 rw[e]at ht;clear e;go_enter Tryz.func121,Tryz.ntmps121
 go_wp2_with fail
 refine hi.mono ?_;rintro e w1 ⟨rfl,hb1⟩;replace hb1:=Lib.hid hb1
 go_wp2_with fail
 refine(ht _).mono ?_;rintro e w2 ⟨rfl,hw2⟩;subst hw2;go_wp2;go_ret;exact⟨rfl,hb1.out⟩
theorem one_below (w:World) (o:Obj):Below w.heap.size w (w.alloc o):=(Below.refl _ w).alloc (Nat.le_refl _) _
theorem int_abs_lim {n:Int} (h0:-9223372036854775808≤n) (h1:n≤9223372036854775807):n.natAbs<L1:=by
 have h:10^20≤L1:=Nat.pow_le_pow_right (by omega) (by rw[mx1_eq];omega);omega
theorem Of_w (m n:Int) (hm0:-9223372036854775808≤m) (hm1:m≤9223372036854775807) (hn0:-9223372036854775808≤n) (hn1:n≤9223372036854775807) (h0:n≠0) (r:Bool) (x y:ByteArray) (w:World) (hE:Env w)
 (hl:∀W,Env W→Calls Tryz.prog 124 #[.bool (!(decide (m<0)==decide (n<0))),.string (T (some m.natAbs)),.string (T (some n.natAbs))] W fun e w'=>e=.returned (.tuple #[.agg #[.bool r,.string x,.string y],.int .i64 0])∧Below W.heap.size W w') :
 Calls Tryz.prog 62 #[.int .i64 m,.int .i64 n] w fun e w'=>e=.returned (.tuple #[.agg #[.bool r,.string x,.string y],.int .i64 0])∧Below w.heap.size w w':=by
 have hz:(n==0)=false:=by rw[beq_eq_false_iff_ne];exact h0
 have c1:=fun W (h:Env W)=>size_any m hm0 hm1 W h;have c2:=fun W (h:Env W)=>size_any n hn0 hn1 W h;replace hE:=Lib.hid hE;replace hl:=Lib.hid hl;replace h0:=Lib.hid h0;clear hm0 hm1 hn0 hn1;go_enter Tryz.func62,Tryz.ntmps62
 go_wp2_with fail
 refine(c1 _ (hE.out.below (one_below _ _))).mono ?_;rintro e w1 ⟨rfl,hb1⟩;have q1:=(B3.new w false ⟨#[]⟩ ⟨#[]⟩).below hb1;have hB1:=Lib.hid ((one_below w (.cells #[.bool false,.string ⟨#[]⟩,.string ⟨#[]⟩] 37)).trans (hb1.mono (by simp)));clear hb1;replace q1:=Lib.hid q1
 go_wp2_with fail
 refine(c2 _ (hE.out.below hB1.out)).mono ?_;rintro e w2 ⟨rfl,hb2⟩;have q2:=q1.out.below hb2;have hB2:=Lib.hid (hB1.out.trans (hb2.mono hB1.out.size));clear hb2;replace q2:=Lib.hid q2
 go_wp2_with fail
 refine(hl.out _ (hE.out.below hB2.out)).mono ?_;rintro e w3 ⟨rfl,hb3⟩;have q3:=q2.out.below hb3;have hB3:=Lib.hid (hB2.out.trans (hb3.mono hB2.out.size));obtain⟨d1,d2,d3,d4,d5,d6⟩:=q3.facts;have hz3:=q3.lt;clear hb3;replace q3:=Lib.hid q3;go_wp2;refine bodyPost_ret (v:=.tuple #[.agg #[.bool r,.string x,.string y],.int .i64 0]) (by simp[results,Tryz.results62,go_sem,d1,d2,d3]) rfl ⟨rfl,?_⟩
 repeat refine Below.setCell ?_ (by simp only[];omega) _
 exact hB3.out
def ofQ (m n:Int):Rat:=mkRat (sg (!(decide (m<0)==decide (n<0))) m.natAbs) n.natAbs
theorem RatOf_any (m n:Int) (hm0:-9223372036854775808≤m) (hm1:m≤9223372036854775807) (hn0:-9223372036854775808≤n) (hn1:n≤9223372036854775807) (h0:n≠0) (w:World) (hE:Env w) :
 Calls Tryz.prog 62 #[.int .i64 m,.int .i64 n] w fun e w'=>e=.returned (.tuple #[qv (ofQ m n),.int .i64 0])∧Below w.heap.size w w' :=
 Of_w m n hm0 hm1 hn0 hn1 h0 _ _ _ w hE fun W hW=>lowest_any _ m.natAbs n.natAbs W hW (L1_lim (int_abs_lim hm0 hm1)) (L1_lim (int_abs_lim hn0 hn1)) (by omega)
end Nt
end
section
open Go.RowKit Go.Shelf
namespace Nt
def REnv (w:World):Prop:=Env w∧∃m:Int,w.cell? ⟨7,0,none⟩=some (.int .i64 m)
theorem REnv.lt {w:World} (h:REnv w):7<w.heap.size:=by
 obtain⟨_,m,hm⟩:=h;exact World.block_lt_of_cell? w _ hm
theorem REnv.below {w w':World} (h:REnv w) (hb:Below w.heap.size w w'):REnv w':=by
 have hl:=h.lt;obtain⟨h1,m,hm⟩:=h;exact⟨h1.below hb,m,(hb.cell (p:=⟨7,0,none⟩) hl).trans hm⟩
end Nt
end
section
open Go.ChangeShapes Go.WideShapes Go.ChangeAt Go.RowKit Go.Shelf Go.Joins
namespace Nt
theorem wf_inQ {k:IntKind} {n:Int} (h:(Lit.int k n).wf=true):k.min≤n∧n≤k.max:=by simpa [Lit.wf] using h
section
variable {H:Type} {enc:TypeId×Value→H} {w:World} {base:Nat} {spare:Nat→Bool} {held:Bool}
theorem cells_q:Tryz.prog.cellsOf 37=3:=by kernel_rfl
end
end Nt
end
section
open Go.ChangeShapes Go.WideShapes Go.ChangeAt Go.RowKit Go.Shelf Go.Joins Go.Deep
namespace Ci
open Nt
def in64 (x:Int):Prop:=-9223372036854775808≤x∧x≤9223372036854775807
def lkD {H:Type} (x:Lk):DataW H:=.agg [.lit (.int .i64 x.1),.lit (.int .i64 x.2.1),.agg [.lit (.bool x.2.2.1),.lit (.string x.2.2.2.1.data.toList),.lit (.string x.2.2.2.2.data.toList)]]
def strD {H:Type} (x:ByteArray):DataW H:=.lit (.string x.data.toList)
def intD {H:Type} (x:Int):DataW H:=.lit (.int .i64 x)
def isSl {H α:Type} (f:α→DataW H) (l:List α) (d:DataW H):Prop:=(d=.nil∧l=[])∨∃rest,d=.slice (l.map f) rest
section
variable {H:Type} {enc:TypeId×Value→H} {w:World} {base:Nat} {held:Bool}
theorem cadd {b o k:Nat}:(⟨b,o,none⟩:Addr).add k=⟨b,o+k,none⟩:=by unfold Addr.add;split<;>simp_all
theorem i64_in {x:Int} (h:(Lit.int .i64 x).wf=true):in64 x:=by
 have:=wf_inQ h;exact this
theorem open_ints' {fuel:Nat} {cs:List Value} {x:DataW H×List MemPlace} (h:DataW.trod enc Tryz.prog w base (fun _=>true) held fuel 26 cs=some x) :
 ∃(A:Option Addr) (cap:Nat) (l:List Int),cs=[.slice A l.length cap]∧isSl intD l x.1∧InInt w A l∧∀y,y∈l→in64 y:=by
 rcases open_slice1 Tryz.underlying26 (by kernel_rfl) h with⟨h1,h2⟩ | ⟨a,len,cap,m,n,V,D,Pl,hcs,hb,hl,hm,hmm,hx,hi⟩
 · exact⟨none,0,[],h1,.inl ⟨by rw[h2],rfl⟩,fun h=>absurd h (by simp),fun y hy=>by cases hy⟩
 · simp only[if_true]at hmm;subst hmm
   have each:∀i,i<m→∃y:Int,V i=.int .i64 y∧D i=intD y∧in64 y:=by
    intro i him;obtain⟨y,e1,e2,e3⟩:=DataW.trod_int Tryz.underlying3 (hi i him).2;exact⟨y,by simpa using e1,congrArg Prod.fst e2,i64_in e3⟩
   obtain⟨Y,hY⟩:=choose_lt each;refine⟨some a,m,(List.range len).map Y,by simpa using hcs,.inr ⟨_,by rw[hx,List.map_map];simp only[];congr 1;exact List.map_congr_left fun i hi2=>(hY i (by have:=List.mem_range.1 hi2;omega)).2.1⟩,fun h0=>?_,fun y hy=>?_⟩
   · simp only[List.length_map,List.length_range]at h0;have h00:=(hi 0 (by omega)).1;have hsp:=World.cell?_spot h00;obtain⟨b,o,s⟩:=a;have hs:s=none:=by simpa [Addr.add] using hsp
     subst hs;refine⟨b,o,rfl,?_,fun j hj=>?_⟩
     · have:=World.block_lt_of_cell? w _ h00
       simpa [cadd] using this
     · have hj':j<len:=by simpa using hj
       have hc:=(hi j (by omega)).1;rw[cadd,(hY j (by omega)).1]at hc;simp only[List.getElem_map,List.getElem_range];exact hc
   · obtain⟨i,hi2,rfl⟩:=List.mem_map.1 hy;exact(hY i (by have:=List.mem_range.1 hi2;omega)).2.2
theorem open_strs' {fuel:Nat} {cs:List Value} {x:DataW H×List MemPlace} (h:DataW.trod enc Tryz.prog w base (fun _=>true) held fuel 22 cs=some x) :
 ∃(A:Option Addr) (cap:Nat) (l:List ByteArray),cs=[.slice A l.length cap]∧isSl strD l x.1∧InStr w A l:=by
 rcases open_slice1 Tryz.underlying22 (by kernel_rfl) h with⟨h1,h2⟩ | ⟨a,len,cap,m,n,V,D,Pl,hcs,hb,hl,hm,hmm,hx,hi⟩
 · exact⟨none,0,[],h1,.inl ⟨by rw[h2],rfl⟩,fun h=>absurd h (by simp)⟩
 · simp only[if_true]at hmm;subst hmm
   have each:∀i,i<m→∃y:ByteArray,V i=.string y∧D i=strD y:=by
    intro i him;obtain⟨y,e1,e2,_⟩:=DataW.trod_string Tryz.underlying9 (hi i him).2;exact⟨y,by simpa using e1,congrArg Prod.fst e2⟩
   obtain⟨Y,hY⟩:=choose_lt each;refine⟨some a,m,(List.range len).map Y,by simpa using hcs,.inr ⟨_,by rw[hx,List.map_map];simp only[];congr 1;exact List.map_congr_left fun i hi2=>(hY i (by have:=List.mem_range.1 hi2;omega)).2⟩,fun h0=>?_⟩;simp only[List.length_map,List.length_range]at h0;have h00:=(hi 0 (by omega)).1;have hsp:=World.cell?_spot h00;obtain⟨b,o,s⟩:=a;have hs:s=none:=by simpa [Addr.add] using hsp
   subst hs;refine⟨b,o,rfl,?_,fun j hj=>?_⟩
   · have:=World.block_lt_of_cell? w _ h00
     simpa [cadd] using this
   · have hj':j<len:=by simpa using hj
     have hc:=(hi j (by omega)).1;rw[cadd,(hY j (by omega)).1]at hc;simp only[List.getElem_map,List.getElem_range];exact hc
theorem cells_lk:Tryz.prog.cellsOf 42=5:=by kernel_rfl
theorem open_lks0 {fuel:Nat} {cs:List Value} {x:DataW H×List MemPlace} (h:DataW.trod enc Tryz.prog w base (fun _=>true) held fuel 23 cs=some x) :
 ∃(A:Option Addr) (cap:Nat) (l:List Lk),cs=[.slice A l.length cap]∧isSl lkD l x.1∧InLk w A l∧(∀y,y∈l→in64 y.1∧in64 y.2.1)∧l.length≤cap:=by
 rcases open_slice Tryz.underlying23 h with⟨h1,h2⟩ | ⟨a,len,cap,m,n,D,Pl,hcs,hb,hl,hm,hmm,hx,hi⟩
 · exact⟨none,0,[],h1,.inl ⟨by rw[h2],rfl⟩,fun h=>absurd h (by simp),(fun y hy=>by cases hy),Nat.le_refl _⟩
 · simp only[if_true]at hmm;subst hmm
   have each:∀i,i<m→∃y:Lk,D i=lkD y∧(w.cell? (a.add (i*5))=some (.int .i64 y.1)∧w.cell? (a.add (i*5+1))=some (.int .i64 y.2.1)∧w.cell? (a.add (i*5+2))=some (.bool y.2.2.1)∧w.cell? (a.add (i*5+3))=some (.string y.2.2.2.1)∧w.cell? (a.add (i*5+4))=some (.string y.2.2.2.2))∧in64 y.1∧in64 y.2.1:=by
    intro i him;obtain⟨cs',hc,ht'⟩:=hi i him;rw[cells_lk]at hc;obtain⟨y0,y1,y2,n',hy,_,t0,t1,t2⟩:=trod_struct3 Tryz.underlying42 ht';obtain⟨z0,z1,z2,n'',hz,_,u0,u1,u2⟩:=trod_struct3 Tryz.underlying37 t2;obtain⟨_,hcl,hat⟩:=World.cells?_some hc
    match cs',hcl with
    | [c0,c1,c2,c3,c4],_ =>
      have g0:=hat 0 (by omega);have g1:=hat 1 (by omega);have g2:=hat 2 (by omega);have g3:=hat 3 (by omega);have g4:=hat 4 (by omega);rw[Go.Deep.add_add]at g0 g1 g2 g3 g4;obtain⟨a0,e0,k0,f0⟩:=DataW.trod_int Tryz.underlying3 t0;obtain⟨a1,e1,k1,f1⟩:=DataW.trod_int Tryz.underlying3 t1;obtain⟨a2,e2,k2⟩:=DataW.trod_bool Tryz.underlying4 u0;obtain⟨a3,e3,k3,_⟩:=DataW.trod_string Tryz.underlying9 u1;obtain⟨a4,e4,k4,_⟩:=DataW.trod_string Tryz.underlying9 u2;simp only[Prod.mk.injEq]at hy hz;have s1:Tryz.prog.cellsOf 3=1:=by kernel_rfl
      have s2:Tryz.prog.cellsOf 4=1:=by kernel_rfl
      have s3:Tryz.prog.cellsOf 9=1:=by kernel_rfl
      have s4:Tryz.prog.cellsOf 37=3:=by kernel_rfl
      have b0:c0=.int .i64 a0:=by simpa [s1,s2,s3,s4] using e0
      have b1:c1=.int .i64 a1:=by simpa [s1,s2,s3,s4] using e1
      have b2:c2=.bool a2:=by simpa [s1,s2,s3,s4] using e2
      have b3:c3=.string a3:=by simpa [s1,s2,s3,s4] using e3
      have b4:c4=.string a4:=by simpa [s1,s2,s3,s4] using e4
      subst b0 b1 b2 b3 b4;refine⟨(a0,a1,a2,a3,a4),?_,⟨by simpa using g0,by simpa using g1,by simpa using g2,by simpa using g3,by simpa using g4⟩,i64_in f0,i64_in f1⟩;rw[hy.1,k0,k1,hz,k2,k3,k4];rfl
   obtain⟨Y,hY⟩:=choose_lt each;refine⟨some a,m,(List.range len).map Y,by simpa using hcs,.inr ⟨_,by rw[hx,List.map_map];simp only[];congr 1;exact List.map_congr_left fun i hi2=>(hY i (by have:=List.mem_range.1 hi2;omega)).1⟩,fun h0=>?_,fun y hy=>?_,by rw[List.length_map,List.length_range];omega⟩
   · simp only[List.length_map,List.length_range]at h0;have h00:=(hY 0 (by omega)).2.1.1;have hsp:=World.cell?_spot h00;obtain⟨b,o,s⟩:=a;have hs:s=none:=by simpa [Addr.add] using hsp
     subst hs;refine⟨b,o,rfl,?_,fun j hj=>?_⟩
     · have:=World.block_lt_of_cell? w _ h00
       simpa [cadd] using this
     · have hj':j<len:=by simpa using hj
       have hc:=(hY j (by omega)).2.1;simp only[cadd]at hc;simp only[List.getElem_map,List.getElem_range];exact hc
   · obtain⟨i,hi2,rfl⟩:=List.mem_map.1 hy;exact(hY i (by have:=List.mem_range.1 hi2;omega)).2.2
theorem open_lks {fuel:Nat} {cs:List Value} {x:DataW H×List MemPlace} (h:DataW.trod enc Tryz.prog w base (fun _=>true) held fuel 23 cs=some x) :
 ∃(A:Option Addr) (cap:Nat) (l:List Lk),cs=[.slice A l.length cap]∧isSl lkD l x.1∧InLk w A l∧∀y,y∈l→in64 y.1∧in64 y.2.1:=by
 obtain⟨A,cap,l,h1,h2,h3,h4,_⟩:=open_lks0 h;exact⟨A,cap,l,h1,h2,h3,h4⟩
end
end Ci
end
section
open Go.RowKit Go.Shelf
namespace Ci
open Nt
theorem isName_w (s:ByteArray) (w:World) (hs:s.size≤9223372036854775807) :
 Calls Tryz.prog 72 #[.string s] w fun e w'=>e=.returned (.bool (identB s))∧w'=w:=by
 have HB:=Lib.hid (fun(k:Nat) (h:k<s.size) (hb:¬OkAt k s[k].toNat)=>ident_bad (s:=s) h hb);have HA:=Lib.hid (ident_all (s:=s));go_enter Tryz.func72,Tryz.ntmps72;go_wp2
 go_loop [8] (fun i=>∃k:Nat,k≤s.size∧i=.int .i64 k∧Hid (∀i (h:i<s.size),i<k→OkAt i s[i].toNat)) (fun i=>s.size-(intOf i).toNat)
 case atStart=>exact⟨0,Nat.zero_le _,rfl,fun i _ h=>absurd h (Nat.not_lt_zero _)⟩
 case round =>
  obtain⟨k,hk,rfl,hI⟩:=hrel
  by_cases hlt:k<s.size
  · have hc:s[k].toNat≤255:=by have:=s[k].toNat_lt;omega
    have i0:(0:Int)≤(k:Int):=by omega
    have i1:(k:Int)<(s.size:Int):=by omega
    have HN:Hid (OkAt k s[k].toNat→∀i (h:i<s.size),i<k+1→OkAt i s[i].toNat):=fun h i hi h2=>by
     by_cases e:i=k
     · subst e;exact h
     · exact hI.out i hi (by omega)
    have HB2:=Lib.hid (HB.out k hlt);clear hI
    by_cases e0:k=0
    · have b0:((k:Int)==0)=true:=by rw[beq_iff_eq];omega
      have b0n:((k:Int) != 0)=false:=by rw[bne_eq_false_iff_eq];omega
      have b3:(k==0)=true:=by rw[beq_iff_eq];omega
      replace e0:=Lib.hid e0;have hcl:(s[k].toNat≤47∧0≤s[k].toNat)∨(48≤s[k].toNat∧s[k].toNat≤57)∨(58≤s[k].toNat∧s[k].toNat≤64)∨(65≤s[k].toNat∧s[k].toNat≤90)∨(91≤s[k].toNat∧s[k].toNat≤94)∨(95≤s[k].toNat∧s[k].toNat≤95)∨(96≤s[k].toNat∧s[k].toNat≤96)∨(97≤s[k].toNat∧s[k].toNat≤122)∨(123≤s[k].toNat∧s[k].toNat≤255):=by omega
      rcases hcl with⟨g1,g2⟩ | ⟨g1,g2⟩ | ⟨g1,g2⟩ | ⟨g1,g2⟩ | ⟨g1,g2⟩ | ⟨g1,g2⟩ | ⟨g1,g2⟩ | ⟨g1,g2⟩ | ⟨g1,g2⟩
      · have b1:((s[k].toNat:Int) != 95)=true:=by rw[bne_iff_ne];omega
        have b2:((s[k].toNat:Int)==95)=false:=by rw[beq_eq_false_iff_ne];omega
        have HR:Hid (identB s=false):=HB2.out (by have:=e0.out;unfold OkAt;omega);clear HN HB2;go_wp2;go_ret;exact⟨ret_bool HR.out.symm,rfl⟩
      · have b1:((s[k].toNat:Int) != 95)=true:=by rw[bne_iff_ne];omega
        have b2:((s[k].toNat:Int)==95)=false:=by rw[beq_eq_false_iff_ne];omega
        have HR:Hid (identB s=false):=HB2.out (by have:=e0.out;unfold OkAt;omega);clear HN HB2;go_wp2;go_ret;exact⟨ret_bool HR.out.symm,rfl⟩
      · have b1:((s[k].toNat:Int) != 95)=true:=by rw[bne_iff_ne];omega
        have b2:((s[k].toNat:Int)==95)=false:=by rw[beq_eq_false_iff_ne];omega
        have HR:Hid (identB s=false):=HB2.out (by have:=e0.out;unfold OkAt;omega);clear HN HB2;go_wp2;go_ret;exact⟨ret_bool HR.out.symm,rfl⟩
      · have b1:((s[k].toNat:Int) != 95)=true:=by rw[bne_iff_ne];omega
        have b2:((s[k].toNat:Int)==95)=false:=by rw[beq_eq_false_iff_ne];omega
        have HR:=Lib.hid (HN.out (by have:=e0.out;unfold OkAt;omega));clear HN HB2;go_wp2;go_round
        case rel=>exact⟨k+1,by omega,by go_num,HR⟩
        case measure=>simp[intOf];omega
      · have b1:((s[k].toNat:Int) != 95)=true:=by rw[bne_iff_ne];omega
        have b2:((s[k].toNat:Int)==95)=false:=by rw[beq_eq_false_iff_ne];omega
        have c1:decide ((s[k].toNat:Int)≤90)=false:=by rw[decide_eq_false_iff_not];omega
        have d1:decide (s[k].toNat≤90)=false:=by rw[decide_eq_false_iff_not];omega
        have n1:¬((s[k].toNat:Int)≤90):=by omega
        have HR:Hid (identB s=false):=HB2.out (by have:=e0.out;unfold OkAt;omega);clear HN HB2;go_wp2;go_ret;exact⟨ret_bool HR.out.symm,rfl⟩
      · have b1:((s[k].toNat:Int) != 95)=false:=by rw[bne_eq_false_iff_eq];omega
        have b2:((s[k].toNat:Int)==95)=true:=by rw[beq_iff_eq];omega
        have c1:decide ((s[k].toNat:Int)≤90)=false:=by rw[decide_eq_false_iff_not];omega
        have d1:decide (s[k].toNat≤90)=false:=by rw[decide_eq_false_iff_not];omega
        have n1:¬((s[k].toNat:Int)≤90):=by omega
        have HR:Hid (identB s=false):=HB2.out (by have:=e0.out;unfold OkAt;omega);clear HN HB2;go_wp2;go_ret;exact⟨ret_bool HR.out.symm,rfl⟩
      · have b1:((s[k].toNat:Int) != 95)=true:=by rw[bne_iff_ne];omega
        have b2:((s[k].toNat:Int)==95)=false:=by rw[beq_eq_false_iff_ne];omega
        have c1:decide ((s[k].toNat:Int)≤90)=false:=by rw[decide_eq_false_iff_not];omega
        have d1:decide (s[k].toNat≤90)=false:=by rw[decide_eq_false_iff_not];omega
        have n1:¬((s[k].toNat:Int)≤90):=by omega
        have HR:Hid (identB s=false):=HB2.out (by have:=e0.out;unfold OkAt;omega);clear HN HB2;go_wp2;go_ret;exact⟨ret_bool HR.out.symm,rfl⟩
      · have b1:((s[k].toNat:Int) != 95)=true:=by rw[bne_iff_ne];omega
        have b2:((s[k].toNat:Int)==95)=false:=by rw[beq_eq_false_iff_ne];omega
        have c1:decide ((s[k].toNat:Int)≤90)=false:=by rw[decide_eq_false_iff_not];omega
        have d1:decide (s[k].toNat≤90)=false:=by rw[decide_eq_false_iff_not];omega
        have n1:¬((s[k].toNat:Int)≤90):=by omega
        have HR:=Lib.hid (HN.out (by have:=e0.out;unfold OkAt;omega));clear HN HB2;go_wp2;go_round
        case rel=>exact⟨k+1,by omega,by go_num,HR⟩
        case measure=>simp[intOf];omega
      · have b1:((s[k].toNat:Int) != 95)=true:=by rw[bne_iff_ne];omega
        have b2:((s[k].toNat:Int)==95)=false:=by rw[beq_eq_false_iff_ne];omega
        have c0:decide ((s[k].toNat:Int)≤122)=false:=by rw[decide_eq_false_iff_not];omega
        have d0:decide (s[k].toNat≤122)=false:=by rw[decide_eq_false_iff_not];omega
        have n0:¬((s[k].toNat:Int)≤122):=by omega
        have c1:decide ((s[k].toNat:Int)≤90)=false:=by rw[decide_eq_false_iff_not];omega
        have d1:decide (s[k].toNat≤90)=false:=by rw[decide_eq_false_iff_not];omega
        have n1:¬((s[k].toNat:Int)≤90):=by omega
        have HR:Hid (identB s=false):=HB2.out (by have:=e0.out;unfold OkAt;omega);clear HN HB2;go_wp2;go_ret;exact⟨ret_bool HR.out.symm,rfl⟩
    · have b0:((k:Int)==0)=false:=by rw[beq_eq_false_iff_ne];omega
      have b0n:((k:Int) != 0)=true:=by rw[bne_iff_ne];omega
      have b3:(k==0)=false:=by rw[beq_eq_false_iff_ne];omega
      have hcl:(s[k].toNat≤47∧0≤s[k].toNat)∨(48≤s[k].toNat∧s[k].toNat≤57)∨(58≤s[k].toNat∧s[k].toNat≤64)∨(65≤s[k].toNat∧s[k].toNat≤90)∨(91≤s[k].toNat∧s[k].toNat≤94)∨(95≤s[k].toNat∧s[k].toNat≤95)∨(96≤s[k].toNat∧s[k].toNat≤96)∨(97≤s[k].toNat∧s[k].toNat≤122)∨(123≤s[k].toNat∧s[k].toNat≤255):=by omega
      rcases hcl with⟨g1,g2⟩ | ⟨g1,g2⟩ | ⟨g1,g2⟩ | ⟨g1,g2⟩ | ⟨g1,g2⟩ | ⟨g1,g2⟩ | ⟨g1,g2⟩ | ⟨g1,g2⟩ | ⟨g1,g2⟩
      · have b1:((s[k].toNat:Int) != 95)=true:=by rw[bne_iff_ne];omega
        have b2:((s[k].toNat:Int)==95)=false:=by rw[beq_eq_false_iff_ne];omega
        have HR:Hid (identB s=false):=HB2.out (by unfold OkAt;omega);clear HN HB2;go_wp2;go_ret;exact⟨ret_bool HR.out.symm,rfl⟩
      · have b1:((s[k].toNat:Int) != 95)=true:=by rw[bne_iff_ne];omega
        have b2:((s[k].toNat:Int)==95)=false:=by rw[beq_eq_false_iff_ne];omega
        have HR:=Lib.hid (HN.out (by unfold OkAt;omega));clear HN HB2;go_wp2;go_round
        case rel=>exact⟨k+1,by omega,by go_num,HR⟩
        case measure=>simp[intOf];omega
      · have b1:((s[k].toNat:Int) != 95)=true:=by rw[bne_iff_ne];omega
        have b2:((s[k].toNat:Int)==95)=false:=by rw[beq_eq_false_iff_ne];omega
        have HR:Hid (identB s=false):=HB2.out (by unfold OkAt;omega);clear HN HB2;go_wp2;go_ret;exact⟨ret_bool HR.out.symm,rfl⟩
      · have b1:((s[k].toNat:Int) != 95)=true:=by rw[bne_iff_ne];omega
        have b2:((s[k].toNat:Int)==95)=false:=by rw[beq_eq_false_iff_ne];omega
        have HR:=Lib.hid (HN.out (by unfold OkAt;omega));clear HN HB2;go_wp2;go_round
        case rel=>exact⟨k+1,by omega,by go_num,HR⟩
        case measure=>simp[intOf];omega
      · have b1:((s[k].toNat:Int) != 95)=true:=by rw[bne_iff_ne];omega
        have b2:((s[k].toNat:Int)==95)=false:=by rw[beq_eq_false_iff_ne];omega
        have c1:decide ((s[k].toNat:Int)≤90)=false:=by rw[decide_eq_false_iff_not];omega
        have d1:decide (s[k].toNat≤90)=false:=by rw[decide_eq_false_iff_not];omega
        have n1:¬((s[k].toNat:Int)≤90):=by omega
        have HR:Hid (identB s=false):=HB2.out (by unfold OkAt;omega);clear HN HB2;go_wp2;go_ret;exact⟨ret_bool HR.out.symm,rfl⟩
      · have b1:((s[k].toNat:Int) != 95)=false:=by rw[bne_eq_false_iff_eq];omega
        have b2:((s[k].toNat:Int)==95)=true:=by rw[beq_iff_eq];omega
        have c1:decide ((s[k].toNat:Int)≤90)=false:=by rw[decide_eq_false_iff_not];omega
        have d1:decide (s[k].toNat≤90)=false:=by rw[decide_eq_false_iff_not];omega
        have n1:¬((s[k].toNat:Int)≤90):=by omega
        have HR:=Lib.hid (HN.out (by unfold OkAt;omega));clear HN HB2;go_wp2;go_round
        case rel=>exact⟨k+1,by omega,by go_num,HR⟩
        case measure=>simp[intOf];omega
      · have b1:((s[k].toNat:Int) != 95)=true:=by rw[bne_iff_ne];omega
        have b2:((s[k].toNat:Int)==95)=false:=by rw[beq_eq_false_iff_ne];omega
        have c1:decide ((s[k].toNat:Int)≤90)=false:=by rw[decide_eq_false_iff_not];omega
        have d1:decide (s[k].toNat≤90)=false:=by rw[decide_eq_false_iff_not];omega
        have n1:¬((s[k].toNat:Int)≤90):=by omega
        have HR:Hid (identB s=false):=HB2.out (by unfold OkAt;omega);clear HN HB2;go_wp2;go_ret;exact⟨ret_bool HR.out.symm,rfl⟩
      · have b1:((s[k].toNat:Int) != 95)=true:=by rw[bne_iff_ne];omega
        have b2:((s[k].toNat:Int)==95)=false:=by rw[beq_eq_false_iff_ne];omega
        have c1:decide ((s[k].toNat:Int)≤90)=false:=by rw[decide_eq_false_iff_not];omega
        have d1:decide (s[k].toNat≤90)=false:=by rw[decide_eq_false_iff_not];omega
        have n1:¬((s[k].toNat:Int)≤90):=by omega
        have HR:=Lib.hid (HN.out (by unfold OkAt;omega));clear HN HB2;go_wp2;go_round
        case rel=>exact⟨k+1,by omega,by go_num,HR⟩
        case measure=>simp[intOf];omega
      · have b1:((s[k].toNat:Int) != 95)=true:=by rw[bne_iff_ne];omega
        have b2:((s[k].toNat:Int)==95)=false:=by rw[beq_eq_false_iff_ne];omega
        have c0:decide ((s[k].toNat:Int)≤122)=false:=by rw[decide_eq_false_iff_not];omega
        have d0:decide (s[k].toNat≤122)=false:=by rw[decide_eq_false_iff_not];omega
        have n0:¬((s[k].toNat:Int)≤122):=by omega
        have c1:decide ((s[k].toNat:Int)≤90)=false:=by rw[decide_eq_false_iff_not];omega
        have d1:decide (s[k].toNat≤90)=false:=by rw[decide_eq_false_iff_not];omega
        have n1:¬((s[k].toNat:Int)≤90):=by omega
        have HR:Hid (identB s=false):=HB2.out (by unfold OkAt;omega);clear HN HB2;go_wp2;go_ret;exact⟨ret_bool HR.out.symm,rfl⟩
  · obtain rfl:k=s.size:=by omega
    have HE:Hid (identB s=(decide (0<s.size)&&decide (s.size≤24))):=HA.out fun i h=>hI.out i h h
    have q0:s.toList.isEmpty=decide (s.size=0):=by
     rw[Lib.toList_data,Lib.size_eq]
     cases s.data.toList<;>simp
    clear hI
    by_cases h0:s.size=0
    · have q1:s.toList=[]:=by simpa [h0] using q0
      have q2:(!s.toList.isEmpty)=false:=by rw[q0,decide_eq_true h0];rfl
      clear q0;go_wp2;go_ret;exact⟨ret_bool (by rw[HE.out,decide_eq_false (by omega)];rfl),rfl⟩
    · have q2:(!s.toList.isEmpty)=true:=by rw[q0,decide_eq_false h0];rfl
      have q1:¬s.toList=[]:=fun e=>by rw[e]at q0;rw[decide_eq_false h0]at q0;cases q0
      clear q0
      by_cases h24:s.size≤24
      · go_wp2;go_ret;exact⟨ret_bool (by rw[HE.out,decide_eq_true (by omega:0<s.size),decide_eq_true h24,decide_eq_true (by omega:(s.size:Int)≤24)];rfl),rfl⟩
      · go_wp2;go_ret;exact⟨ret_bool (by rw[HE.out,decide_eq_true (by omega:0<s.size),decide_eq_false h24,decide_eq_false (by omega:¬(s.size:Int)≤24)];rfl),rfl⟩
theorem isName_any (s:ByteArray) (w:World) (hs:s.size≤9223372036854775807) :
 Calls Tryz.prog 72 #[.string s] w fun e w'=>e=.returned (.bool (identB s))∧Below w.heap.size w w' :=
 (isName_w s w hs).mono fun e w' h=>by
   obtain⟨rfl,rfl⟩:=h;exact⟨rfl,Below.refl _ _⟩
end Ci
end
section
open Go.RowKit Go.Shelf
namespace Ci
open Nt
theorem mod6 (b:Nat):(6000:Int)%(b:Int)=((6000%b:Nat):Int):=(Int.natCast_emod 6000 b).symm
theorem val4 {s:ByteArray} (h:isN s=true) (h4:s.size≤4):val s<10000:=by
 have h1:=dval_lt (dig_of_isN h);have h2:s.data.toList.length≤4:=by have:=Lib.size_eq s;omega
 have h3:10^s.data.toList.length≤10^4:=Nat.pow_le_pow_right (by omega) h2
 show dval s.data.toList<10000
 omega
theorem atoi4 (s:ByteArray) (h:isN s=true) (h4:s.size≤4) (W:World):Calls Tryz.prog 132 #[.string s] W fun e w'=>e=.returned (.tuple #[.int .i64 (val s:Int),.nilIface])∧Below W.heap.size W w':=by
 have ha:=atoi_num (val s);rw[num_val h]at ha;have hv:val s<10000:=val4 h h4;rw[if_pos (by omega)]at ha;refine(Tryz.strconv_Atoi_ok s (by omega) _ ha W).mono ?_;rintro e w' ⟨rfl,rfl | ⟨t,rfl⟩⟩
 · exact⟨rfl,Below.refl _ _⟩
 · exact⟨rfl,Go.Joins.below_bytesWorld _ _ _ _ (Nat.le_refl _)⟩
theorem valid_parts {g:Bool} {n d:ByteArray} (h:validB g n d=true):isN n=true∧isN d=true∧val d≠0:=by
 unfold validB at h;simp only[Bool.and_eq_true]at h;obtain⟨h1,h2,h3,_⟩:=h;exact⟨h1,h2,by simpa using h3⟩
theorem units_bad {g:Bool} {n d:ByteArray} (h:validB g n d=false∨g=true∨4<n.size∨4<d.size):unitsN (g,n,d)=0:=if_pos h
theorem units_more {g:Bool} {n d:ByteArray} (h1:validB g n d=true) (h2:g=false) (h3:n.size≤4) (h4:d.size≤4):unitsN (g,n,d)=if val d<val n∨6000%val d≠0 then 0 else val n*(6000/val d):=by
 unfold unitsN;rw[if_neg];rintro(h | h | h | h)
 · rw[h1]at h;cases h
 · rw[h2]at h;cases h
 · simp only[]at h;omega
 · simp only[]at h;omega
theorem units_any (g : Bool) (n d : ByteArray) (w : World) (hE : Env w) (hn:n.size≤140737488355328) (hd:d.size≤140737488355328) :
 Calls Tryz.prog 74 #[.agg #[.bool g,.string n,.string d]] w fun e w'=>e=.returned (.int .i64 (unitsN (g,n,d):Int))∧Below w.heap.size w w':=by
 have hv:Hid (∀W,Env W→Calls Tryz.prog 126 #[.agg #[.bool g,.string n,.string d]] W fun e w'=>e=.returned (.bool (validB g n d))∧Below W.heap.size W w'):=fun W hW=>Valid_any g n d W hW hn hd;replace hE:=Lib.hid hE;have hB0:Hid (Below w.heap.size w (w.alloc (.cells #[.bool g,.string n,.string d] 37))):=(Below.refl _ w).alloc (Nat.le_refl _) _;have hF0:Hid (B3 (w.alloc (.cells #[.bool g,.string n,.string d] 37)) w.heap.size g n d):=B3.new w g n d
 cases h1:validB g n d with
 | false =>
   have HG:=Lib.hid (units_bad (g:=g) (n:=n) (d:=d) (.inl h1));rw[h1]at hv;clear h1;go_enter Tryz.func74,Tryz.ntmps74
   go_wp2_with fail
   refine(hv.out _ (hE.out.below hB0.out)).mono ?_;rintro e w1 ⟨rfl,hb⟩;have hB1:=Lib.hid (hB0.out.trans (hb.mono hB0.out.size));clear hb;go_wp2;go_ret;exact⟨by rw[HG.out];rfl,hB1.out⟩
 | true =>
   rw[h1]at hv;obtain⟨q1,q2,q3⟩:=valid_parts h1
   by_cases hbad:g=true∨4<n.size∨4<d.size
   · have HG:=Lib.hid (units_bad (g:=g) (n:=n) (d:=d) (.inr hbad));clear h1 q1 q2 q3;go_enter Tryz.func74,Tryz.ntmps74
     go_wp2_with fail
     refine(hv.out _ (hE.out.below hB0.out)).mono ?_;rintro e w1 ⟨rfl,hb⟩;have hB1:=Lib.hid (hB0.out.trans (hb.mono hB0.out.size));obtain⟨f1,f2,f3,_,_,_⟩:=(hF0.out.below hb).facts;have f4:=(hF0.out.below hb).lt;clear hb
     have hcl:g=true∨(g=false∧4<n.size)∨(g=false∧n.size≤4∧4<d.size):=by
      cases g
      · rcases hbad with h | h | h
        · cases h
        · exact .inr (.inl ⟨rfl,h⟩)
        · by_cases c:4<n.size
          · exact .inr (.inl ⟨rfl,c⟩)
          · exact .inr (.inr ⟨rfl,by omega,h⟩)
      · exact .inl rfl
     clear hbad
     rcases hcl with rfl | ⟨rfl,z1⟩ | ⟨rfl,z1,z2⟩
     all_goals (
      go_wp2;go_ret;exact⟨by rw[HG.out];rfl,hB1.out⟩)
   · have z0:g=false:=by
      cases g
      · rfl
      · exact absurd (.inl rfl) hbad
     have z1:n.size≤4:=by omega
     have z2:d.size≤4:=by omega
     have HG:=units_more h1 z0 z1 z2;have ka:Hid (∀W,Calls Tryz.prog 132 #[.string n] W fun e w'=>e=.returned (.tuple #[.int .i64 (val n:Int),.nilIface])∧Below W.heap.size W w'):=fun W=>atoi4 n q1 z1 W;have kb:Hid (∀W,Calls Tryz.prog 132 #[.string d] W fun e w'=>e=.returned (.tuple #[.int .i64 (val d:Int),.nilIface])∧Below W.heap.size W w'):=fun W=>atoi4 d q2 z2 W;have v1:=val4 q1 z1;have v2:=val4 q2 z2;subst z0;clear h1 hbad q1 q2;generalize hA:val n=a at *;generalize hB:val d=b at *;clear hA hB;have v3:1≤b:=by omega
     have hcl:(b<a)∨(a≤b∧6000%b≠0)∨(a≤b∧6000%b=0):=by omega
     rcases hcl with c1 | ⟨c1,c2⟩ | ⟨c1,c2⟩
     · rw[if_pos (.inl c1)]at HG;replace HG:=Lib.hid HG;go_enter Tryz.func74,Tryz.ntmps74
       go_wp2_with fail
       refine(hv.out _ (hE.out.below hB0.out)).mono ?_;rintro e w1 ⟨rfl,hb⟩;have hB1:=Lib.hid (hB0.out.trans (hb.mono hB0.out.size));have hF1:=Lib.hid (hF0.out.below hb);obtain⟨f1,f2,f3,_,_,_⟩:=hF1.out.facts;have f4:=hF1.out.lt;clear hb
       go_wp2_with fail
       refine(ka.out _).mono ?_;rintro e w2 ⟨rfl,hb⟩;have hB2:=Lib.hid (hB1.out.trans (hb.mono hB1.out.size));have hF2:=Lib.hid (hF1.out.below hb);clear hb f1 f2 f3 f4;obtain⟨f1,f2,f3,_,_,_⟩:=hF2.out.facts;have f4:=hF2.out.lt
       go_wp2_with fail
       refine(kb.out _).mono ?_;rintro e w3 ⟨rfl,hb⟩;have hB3:=Lib.hid (hB2.out.trans (hb.mono hB2.out.size));clear hb f1 f2 f3 f4;go_wp2;go_ret;exact⟨by rw[HG.out];rfl,hB3.out⟩
     · rw[if_pos (.inr c2)]at HG;replace HG:=Lib.hid HG;have t1:((6000:Int)%(b:Int) != 0)=true:=by rw[bne_iff_ne,mod6];omega
       go_enter Tryz.func74,Tryz.ntmps74
       go_wp2_with fail
       refine(hv.out _ (hE.out.below hB0.out)).mono ?_;rintro e w1 ⟨rfl,hb⟩;have hB1:=Lib.hid (hB0.out.trans (hb.mono hB0.out.size));have hF1:=Lib.hid (hF0.out.below hb);obtain⟨f1,f2,f3,_,_,_⟩:=hF1.out.facts;have f4:=hF1.out.lt;clear hb
       go_wp2_with fail
       refine(ka.out _).mono ?_;rintro e w2 ⟨rfl,hb⟩;have hB2:=Lib.hid (hB1.out.trans (hb.mono hB1.out.size));have hF2:=Lib.hid (hF1.out.below hb);clear hb f1 f2 f3 f4;obtain⟨f1,f2,f3,_,_,_⟩:=hF2.out.facts;have f4:=hF2.out.lt
       go_wp2_with fail
       refine(kb.out _).mono ?_;rintro e w3 ⟨rfl,hb⟩;have hB3:=Lib.hid (hB2.out.trans (hb.mono hB2.out.size));clear hb f1 f2 f3 f4;go_wp2;go_ret;exact⟨by rw[HG.out];rfl,hB3.out⟩
     · rw[if_neg (by omega)]at HG;replace HG:=Lib.hid HG;have t1:((6000:Int)%(b:Int) != 0)=false:=by rw[bne_eq_false_iff_eq,mod6];omega
       have t2:a*(6000/b)≤6000:=Nat.le_trans (Nat.mul_le_mul_right _ c1) (Nat.mul_div_le _ _);have t3:(0:Int)≤(a:Int)*((6000:Int)/(b:Int)):=by have:=Int.natCast_nonneg (a*(6000/b));rw[Int.natCast_mul]at this;exact this
       have t4 : (a : Int) * ((6000 : Int) / (b : Int)) ≤ 6000 := by have h:((a*(6000/b):Nat):Int)≤6000:=by omega
                                                                     rw[Int.natCast_mul]at h;exact h
       have HP:Hid (((a*(6000/b):Nat):Int)=(a:Int)*((6000:Int)/(b:Int))):=by rw[Int.natCast_mul];rfl
       clear t2;go_enter Tryz.func74,Tryz.ntmps74
       go_wp2_with fail
       refine(hv.out _ (hE.out.below hB0.out)).mono ?_;rintro e w1 ⟨rfl,hb⟩;have hB1:=Lib.hid (hB0.out.trans (hb.mono hB0.out.size));have hF1:=Lib.hid (hF0.out.below hb);obtain⟨f1,f2,f3,_,_,_⟩:=hF1.out.facts;have f4:=hF1.out.lt;clear hb
       go_wp2_with fail
       refine(ka.out _).mono ?_;rintro e w2 ⟨rfl,hb⟩;have hB2:=Lib.hid (hB1.out.trans (hb.mono hB1.out.size));have hF2:=Lib.hid (hF1.out.below hb);clear hb f1 f2 f3 f4;obtain⟨f1,f2,f3,_,_,_⟩:=hF2.out.facts;have f4:=hF2.out.lt
       go_wp2_with fail
       refine(kb.out _).mono ?_;rintro e w3 ⟨rfl,hb⟩;have hB3:=Lib.hid (hB2.out.trans (hb.mono hB2.out.size));clear hb f1 f2 f3 f4;go_wp2;go_ret;exact⟨by rw[HG.out,HP.out];rfl,hB3.out⟩
end Ci
end
section
open Go.Maps (Keyed)
open Go.RowKit
namespace Ci
def tokR (v:Value):Option (DataW Value×List MemPlace):=some (.held v,[])
def putF {α:Type} [DecidableEq α] (f:α→Option Value) (x:α) (v:Option Value):α→Option Value:=fun y=>if y=x then v else f y
theorem putF_same {α:Type} [DecidableEq α] (f:α→Option Value) (x:α) (v:Option Value):putF f x v x=v:=if_pos rfl
theorem putF_other {α:Type} [DecidableEq α] {f:α→Option Value} {x y:α} {v:Option Value} (h:y≠x):putF f x v y=f y:=if_neg h
def MapK {α:Type} (P:Program) (k:TypeId) (κ:α→Lit) (w:World) (b c:Nat) (f:α→Option Value):Prop :=
 ∃D:DataW Value,w.ownsMap P k tokR b c D∧Maps.size D=c∧∀x,Maps.has D (κ x)=(f x).isSome∧∀z,D.atKey (κ x) z=match f x with | some v=>.held v | none=>z
section
variable {α:Type} {P:Program} {k t e:TypeId} {κ:α→Lit} {w w':World} {b c:Nat} {f:α→Option Value}
theorem own_exact {R:Value→Option (DataW Value×List MemPlace)} {n:Nat} {D:DataW Value} (h:w.ownsMap P k R b n D):w.ownsMap P k R b (Maps.size D) D:=by
 obtain⟨es,clock,hb,F,_,rfl⟩:=h;refine⟨es,clock,hb,F,?_,rfl⟩;simp[Maps.size,length_sorted]
theorem MapK.made (w:World) (P:Program) (k:TypeId) (κ:α→Lit):MapK P k κ (w.alloc (.map #[] 0)) w.heap.size 0 fun _=>none :=
 ⟨.map [],World.ownsMap_made w P k tokR,rfl,fun _=>⟨rfl,fun _=>rfl⟩⟩
theorem MapK.lt (h:MapK P k κ w b c f):b<w.heap.size:=by obtain⟨D,h,_⟩:=h;exact h.lt
theorem MapK.kept {row:Option Nat} (h:MapK P k κ w b c f) (hg:w.grownBy w' row) (hne:some b≠row):MapK P k κ w' b c f:=by
 obtain⟨D,h,r⟩:=h;exact⟨D,h.kept hg hne,r⟩
theorem MapK.block (h:MapK P k κ w b c f) (hb:w'.heap[b]? = w.heap[b]?):MapK P k κ w' b c f:=by
 obtain⟨D,⟨es,clock,h1,h2⟩,r⟩:=h;exact⟨D,⟨es,clock,hb.trans h1,h2⟩,r⟩
theorem MapK.below (h:MapK P k κ w b c f) (hb:Below w.heap.size w w'):MapK P k κ w' b c f:=h.block (hb.block b h.lt)
theorem MapK.alloc (h:MapK P k κ w b c f) (o:Obj):MapK P k κ (w.alloc o) b c f:=by
 obtain⟨D,h,r⟩:=h;exact⟨D,h.alloc o,r⟩
theorem MapK.drew (h:MapK P k κ w b c f):MapK P k κ w.drew b c f:=h
theorem MapK.set (h:MapK P k κ w b c f) {a:Addr} (ha:b≠a.block) (u:Value):MapK P k κ (w.setCell a u) b c f:=by
 obtain⟨D,h,r⟩:=h;exact⟨D,h.setCell ha u,r⟩
theorem MapK.congr {g:α→Option Value} (h:MapK P k κ w b c f) (e:∀x,f x=g x):MapK P k κ w b c g:=by rwa [←funext e]
theorem MapK.look (h:MapK P k κ w b c f) (K:Keyed P k) (ht:P.underlying t=some (.map k e)) {z:Value} (hz:(zeroValue e).run P w=.ok z w) {key:Value} {x:α} (hkey:keyOf P k key=some (κ x)) :
 (Instr.lookup t (.map (some b)) key false).run P w=.ok ((f x).getD z) w:=by
 obtain⟨D,h,_,hv⟩:=h;obtain⟨v,ps,hrun,hR⟩:=h.lookup K ht hz (zd:=.held z) (zp:=[]) rfl hkey;rw[hrun];rw[(hv x).2]at hR;simp only[tokR,Option.some.injEq,Prod.mk.injEq]at hR
 cases hf:f x with
 | none=>rw[hf]at hR;simp only[DataW.held.injEq]at hR;rw[hR.1];rfl
 | some u=>rw[hf]at hR;simp only[DataW.held.injEq]at hR;rw[hR.1];rfl
theorem MapK.look_ok (h:MapK P k κ w b c f) (K:Keyed P k) (ht:P.underlying t=some (.map k e)) {z:Value} (hz:(zeroValue e).run P w=.ok z w) {key:Value} {x:α} (hkey:keyOf P k key=some (κ x)) :
 (Instr.lookup t (.map (some b)) key true).run P w=.ok (.tuple #[(f x).getD z,.bool (f x).isSome]) w:=by
 obtain⟨D,h,_,hv⟩:=h;obtain⟨v,ps,hrun,hR⟩:=h.look_ok K ht hz (zd:=.held z) (zp:=[]) rfl hkey;rw[hrun,(hv x).1];rw[(hv x).2]at hR;simp only[tokR,Option.some.injEq,Prod.mk.injEq]at hR
 cases hf:f x with
 | none=>rw[hf]at hR;simp only[DataW.held.injEq]at hR;rw[hR.1];rfl
 | some u=>rw[hf]at hR;simp only[DataW.held.injEq]at hR;rw[hR.1];rfl
theorem MapK.put [DecidableEq α] (h:MapK P k κ w b c f) (hκ:∀x y,κ x=κ y→x=y) (K:Keyed P k) (ht:P.underlying t=some (.map k e)) (hn:c<maxLen) {key:Value} {x:α} (hkey:keyOf P k key=some (κ x)) (v:Value) :
 ∃w',(Instr.mapUpdate t (.map (some b)) key v).run P w=.ok () w'∧MapK P k κ w' b (if (f x).isSome then c else c+1) (putF f x (some v))∧w.grownBy w' (some b):=by
 obtain⟨D,h,hs,hv⟩:=h;obtain⟨w',hrun,h2,hg⟩:=h.update K ht hn hkey (R:=tokR) (val:=v) rfl
 have hsz:Maps.size (D.put (κ x) (.held v))=if (f x).isSome then c else c+1:=by
  rw[Maps.size_put (h.tidy K),hs,(hv x).1]
 refine⟨w',hrun,⟨_,by have:=own_exact h2;rwa [hsz]at this,hsz,fun y=>?_⟩,hg⟩
 by_cases hy:y=x
 · subst hy;rw[putF_same];exact⟨Maps.has_put_same h.isMap (K.key hkey) _,fun z=>Maps.atKey_put_same h.isMap (K.key hkey) _ z⟩
 · have hne:κ y≠κ x:=fun e=>hy (hκ _ _ e);rw[putF_other hy,Maps.has_put_other hne];refine⟨(hv y).1,fun z=>?_⟩;rw[Maps.atKey_put_other hne];exact(hv y).2 z
theorem MapK.del [DecidableEq α] (h:MapK P k κ w b c f) (hκ:∀x y,κ x=κ y→x=y) (K:Keyed P k) (ht:P.underlying t=some (.map k e)) {key:Value} {x:α} (hkey:keyOf P k key=some (κ x)) (ty:TypeId) :
 ∃w',(Builtin.delete_ #[t,k] ty #[.map (some b),key]).run P w=.ok (.tuple #[]) w'∧MapK P k κ w' b (if (f x).isSome then c-1 else c) (putF f x none)∧w.grownBy w' (some b):=by
 obtain⟨D,h,hs,hv⟩:=h;obtain⟨w',hrun,h2,hg⟩:=h.drop K ht hkey ty
 have hsz:Maps.size (D.del (κ x))=if (f x).isSome then c-1 else c:=by
  have:=Maps.size_del (k:=κ x) (h.tidy K);rw[hs,(hv x).1]at this
  split<;>simp_all<;>omega
 refine⟨w',hrun,⟨_,by have:=own_exact h2;rwa [hsz]at this,hsz,fun y=>?_⟩,hg.grown⟩
 by_cases hy:y=x
 · subst hy;rw[putF_same];exact⟨Maps.has_del_same,fun z=>Maps.atKey_del_same z⟩
 · have hne:κ y≠κ x:=fun e=>hy (hκ _ _ e);rw[putF_other hy,Maps.has_del_other hne];refine⟨(hv y).1,fun z=>?_⟩;rw[Maps.atKey_del_other hne];exact(hv y).2 z
theorem MapK.len (h:MapK P k κ w b c f) (ht:P.underlying t=some (.map k e)) (ty:TypeId):(Builtin.len_ #[t] ty #[.map (some b)]).run P w=.ok (.int .i64 c) w:=by
 obtain⟨D,h,hs,_⟩:=h;rw[h.len ht,hs]
end
def κi (a:Int):Lit:=.int .i64 a
theorem κi_inj:∀x y,κi x=κi y→x=y:=fun x y h=>by injection h
theorem key_i {P:Program} {k:TypeId} (hk:P.underlying k=some (.int .i64)) {a:Int} (h1:-9223372036854775808≤a) (h2:a≤9223372036854775807):keyOf P k (.int .i64 a)=some (κi a):=Maps.keyOf_int_mk hk (WalkArith.wf_i64 ⟨h1,h2⟩)
end Ci
end
section
open Go.RowKit Go.Shelf
namespace Ci
open Nt
def regsOf:Code→List Code
 | .loop c=>regsOf c
 | .seq a b=>regsOf a++regsOf b
 | .block _ c=>regsOf c
 | .scope c=>regsOf c
 | .cond _ a b=>regsOf a++regsOf b
 | .region a b c=>[.region a b c]
 | _=>[]
noncomputable def greg (j:Nat):Code:=((Tryz.f73.body.map regsOf).bind fun l=>l[j]?).getD .skip
theorem greg7 {c0 c1 c2 c3 c4 c6 c7 c9 c11 c12 c13 c14 c15 c16 c17 c18 c19 c20 c21 c22 c23 c24 c25 c26 c27 c28 c29 c30 c31 c32 c52 c53 c54 c55 c56 c57 c58 c59 c60 c61 c62 c63 c64 c65 c66 c67 c68 c69 c70 c71 c72 c73 c74 c75 c76 c77 c78 c79 c80 c81 c82 c83 c84 c85 c86 c87 c88 c89 c90 c91 c92 c93 c94 c95 a10 a33 a34 a35 a36 a37 a38 a39 a40 a41 a42 a43 a44 a45 a46 a47 a48 a49 a50 a51:Value} {Q:Exit→Act→World→Prop} (kb lb:Nat) (co ho lc lh:Int) (r:Bool) (hr:r=decide (lc<co∨(lc=co∧lh<ho))) (w:World) (u2:w.cell? ⟨kb,0,none⟩=some (.int .i64 co)) (u3:w.cell? ⟨kb,1,none⟩=some (.int .i64 ho)) (u4:w.cell? ⟨lb,0,none⟩=some (.int .i64 lc)) (u5:w.cell? ⟨lb,1,none⟩=some (.int .i64 lh))
 (h:∀u33 u34 u35 u36 u37 u38 u39 u40 u41 u42 u43 u44 u45 u46 u47 u48 u49 u50 u51:Value,Q .normal ⟨#[c0,c1,c2,c3,c4,.pointer (some ⟨lb,0,none⟩),c6,c7,.pointer (some ⟨kb,0,none⟩),c9,.bool r,c11,c12,c13,c14,c15,c16,c17,c18,c19,c20,c21,c22,c23,c24,c25,c26,c27,c28,c29,c30,c31,c32,u33,u34,u35,u36,u37,u38,u39,u40,u41,u42,u43,u44,u45,u46,u47,u48,u49,u50,u51,c52,c53,c54,c55,c56,c57,c58,c59,c60,c61,c62,c63,c64,c65,c66,c67,c68,c69,c70,c71,c72,c73,c74,c75,c76,c77,c78,c79,c80,c81,c82,c83,c84,c85,c86,c87,c88,c89,c90,c91,c92,c93,c94,c95],[]⟩ w) :
 Code.wp Tryz.prog (greg 7) Q ⟨#[c0,c1,c2,c3,c4,.pointer (some ⟨lb,0,none⟩),c6,c7,.pointer (some ⟨kb,0,none⟩),c9,a10,c11,c12,c13,c14,c15,c16,c17,c18,c19,c20,c21,c22,c23,c24,c25,c26,c27,c28,c29,c30,c31,c32,a33,a34,a35,a36,a37,a38,a39,a40,a41,a42,a43,a44,a45,a46,a47,a48,a49,a50,a51,c52,c53,c54,c55,c56,c57,c58,c59,c60,c61,c62,c63,c64,c65,c66,c67,c68,c69,c70,c71,c72,c73,c74,c75,c76,c77,c78,c79,c80,c81,c82,c83,c84,c85,c86,c87,c88,c89,c90,c91,c92,c93,c94,c95],[]⟩ w:=by
 conv=>arg 2;whnf
 conv=>arg 4;zeta
 replace h:=Lib.hid h;have hcR:(lc<co)∨(co=lc∧lh<ho)∨(co<lc)∨(co=lc∧ho≤lh):=by omega
 rcases hcR with r1 | ⟨r1,r2⟩ | r1 | ⟨r1,r2⟩
 · have m1:(co==lc)=false:=by rw[beq_eq_false_iff_ne];omega
   obtain rfl:r=true:=by rw[hr,decide_eq_true (.inl r1)]
   clear hr;go_wp2;exact h.out ..
 · have m1:(co==lc)=true:=by rw[beq_iff_eq];exact r1
   have m2:co≤lc:=by omega
   obtain rfl:r=true:=by rw[hr,decide_eq_true (.inr ⟨r1.symm,r2⟩)]
   clear hr r1;go_wp2;exact h.out ..
 · have m1:(co==lc)=false:=by rw[beq_eq_false_iff_ne];omega
   obtain rfl:r=false:=by rw[hr,decide_eq_false (by omega)]
   have m3:decide (lc<co)=false:=decide_eq_false (by omega);clear hr;go_wp2;exact h.out ..
 · have m1:(co==lc)=true:=by rw[beq_iff_eq];exact r1
   have m2:co≤lc:=by omega
   obtain rfl:r=false:=by rw[hr,decide_eq_false (by omega)]
   have m3:decide (lc<co)=false:=decide_eq_false (by omega);have m4:decide (lh<ho)=false:=decide_eq_false (by omega);clear hr r1;go_wp2;exact h.out ..
theorem greg8 {c0 c2 c3 c5 c6 c11 c12 c13 c14 c15 c16 c17 c18 c19 c20 c21 c22 c23 c24 c25 c26 c27 c28 c29 c30 c31 c32 c33 c34 c35 c36 c37 c38 c39 c40 c41 c42 c43 c44 c45 c46 c47 c48 c49 c50 c51 c94 c95 a52 a53 a54 a55 a56 a57 a58 a59 a60 a61 a62 a63 a64 a65 a66 a67 a68 a69 a70 a71 a72 a73 a74 a75 a76 a77 a78 a79 a80 a81 a82 a83 a84 a85 a86 a87 a88 a89 a90 a91 a92 a93:Value} {Q:Exit→Act→World→Prop} (xb kb nb mb n p s:Nat) (co ho:Int) (r q:Bool) (hq:q=decide (co<0∨(n:Int)≤co∨ho<0∨(n:Int)≤ho∨co=ho∨r=false∨p=0∨6000<s)) (w:World) (hp6:p≤6000) (hs:s≤12000) (hn:n≤140737488355328) (u1:w.cell? ⟨xb,0,none⟩=some (.int .i64 co)) (u2:w.cell? ⟨kb,0,none⟩=some (.int .i64 co)) (u3:w.cell? ⟨kb,1,none⟩=some (.int .i64 ho)) (u4:w.cell? ⟨nb,0,none⟩=some (.int .i64 (n:Int))) (hk:(Instr.lookup 92 (.map (some mb)) (.int .i64 co) false).run Tryz.prog w=.ok (.int .i64 (s:Int)) w)
 (h:∀u52 u53 u54 u55 u56 u57 u58 u59 u60 u61 u62 u63 u64 u65 u66 u67 u68 u69 u70 u71 u72 u73 u74 u75 u76 u77 u78 u79 u80 u81 u82 u83 u84 u85 u86 u87 u88 u89 u90 u91 u92:Value,Q .normal ⟨#[c0,.pointer (some ⟨nb,0,none⟩),c2,c3,.map (some mb),c5,c6,.pointer (some ⟨xb,0,none⟩),.pointer (some ⟨kb,0,none⟩),.int .i64 (p:Int),.bool r,c11,c12,c13,c14,c15,c16,c17,c18,c19,c20,c21,c22,c23,c24,c25,c26,c27,c28,c29,c30,c31,c32,c33,c34,c35,c36,c37,c38,c39,c40,c41,c42,c43,c44,c45,c46,c47,c48,c49,c50,c51,u52,u53,u54,u55,u56,u57,u58,u59,u60,u61,u62,u63,u64,u65,u66,u67,u68,u69,u70,u71,u72,u73,u74,u75,u76,u77,u78,u79,u80,u81,u82,u83,u84,u85,u86,u87,u88,u89,u90,u91,u92,.bool q,c94,c95],[]⟩ w) :
 Code.wp Tryz.prog (greg 8) Q ⟨#[c0,.pointer (some ⟨nb,0,none⟩),c2,c3,.map (some mb),c5,c6,.pointer (some ⟨xb,0,none⟩),.pointer (some ⟨kb,0,none⟩),.int .i64 (p:Int),.bool r,c11,c12,c13,c14,c15,c16,c17,c18,c19,c20,c21,c22,c23,c24,c25,c26,c27,c28,c29,c30,c31,c32,c33,c34,c35,c36,c37,c38,c39,c40,c41,c42,c43,c44,c45,c46,c47,c48,c49,c50,c51,a52,a53,a54,a55,a56,a57,a58,a59,a60,a61,a62,a63,a64,a65,a66,a67,a68,a69,a70,a71,a72,a73,a74,a75,a76,a77,a78,a79,a80,a81,a82,a83,a84,a85,a86,a87,a88,a89,a90,a91,a92,a93,c94,c95],[]⟩ w:=by
 conv=>arg 2;whnf
 conv=>arg 4;zeta
 replace h:=Lib.hid h;have hcB:(co<0)∨(0≤co∧(n:Int)≤co)∨(0≤co∧co<n∧ho<0)∨(0≤co∧co<n∧0≤ho∧(n:Int)≤ho)∨(0≤co∧co<n∧0≤ho∧ho<n∧co=ho)∨(0≤co∧co<n∧0≤ho∧ho<n∧co≠ho):=by omega
 rcases hcB with b1 | ⟨b1,b2⟩ | ⟨b1,b2,b3⟩ | ⟨b1,b2,b3,b4⟩ | ⟨b1,b2,b3,b4,b5⟩ | ⟨b1,b2,b3,b4,b5⟩
 · have q0:True:=trivial;clear q0;obtain rfl:q=true:=by rw[hq,decide_eq_true (.inl b1)]
   clear hq;go_wp2;exact h.out ..
 · have q0:True:=trivial;clear q0;obtain rfl:q=true:=by rw[hq,decide_eq_true (.inr (.inl b2))]
   clear hq;go_wp2;exact h.out ..
 · have q0:True:=trivial;clear q0;obtain rfl:q=true:=by rw[hq,decide_eq_true (.inr (.inr (.inl b3)))]
   clear hq;go_wp2;exact h.out ..
 · have q0:True:=trivial;clear q0;obtain rfl:q=true:=by rw[hq,decide_eq_true (.inr (.inr (.inr (.inl b4))))]
   clear hq;go_wp2;exact h.out ..
 · have m5:(co==ho)=true:=by rw[beq_iff_eq];exact b5
   obtain rfl:q=true:=by rw[hq,decide_eq_true (.inr (.inr (.inr (.inr (.inl b5)))))]
   clear hq b5;go_wp2;exact h.out ..
 · have m5:(co==ho)=false:=by rw[beq_eq_false_iff_ne];exact b5
   cases r with
   | false =>
     obtain rfl:q=true:=by rw[hq,decide_eq_true (.inr (.inr (.inr (.inr (.inr (.inl rfl))))))]
     clear hq;go_wp2;exact h.out ..
   | true =>
     have hcP:p=0∨(1≤p∧6000<s)∨(1≤p∧s≤6000):=by omega
     rcases hcP with p1 | ⟨p1,p2⟩ | ⟨p1,p2⟩
     · have m6:((p:Int)==0)=true:=by rw[beq_iff_eq];omega
       have m7:(p==0)=true:=by rw[beq_iff_eq];exact p1
       obtain rfl:q=true:=by rw[hq,decide_eq_true (.inr (.inr (.inr (.inr (.inr (.inr (.inl p1)))))))]
       clear hq;replace p1:=Lib.hid p1;go_wp2;exact h.out ..
     · have m6:((p:Int)==0)=false:=by rw[beq_eq_false_iff_ne];omega
       have m7:(p==0)=false:=by rw[beq_eq_false_iff_ne];omega
       have m8:decide (6000<(s:Int))=true:=decide_eq_true (by omega);have m9:decide (6000<s)=true:=decide_eq_true p2;obtain rfl:q=true:=by rw[hq,decide_eq_true (.inr (.inr (.inr (.inr (.inr (.inr (.inr p2)))))))]
       clear hq;go_wp2;exact h.out ..
     · have m6:((p:Int)==0)=false:=by rw[beq_eq_false_iff_ne];omega
       have m7:(p==0)=false:=by rw[beq_eq_false_iff_ne];omega
       obtain rfl:q=false:=by rw[hq,decide_eq_false];rintro(c | c | c | c | c | c | c | c)<;>first | omega | exact b5 c | cases c
       have m8:decide (6000<(s:Int))=false:=decide_eq_false (by omega);have m9:decide (6000<s)=false:=decide_eq_false (by omega);have m10:decide (co<0)=false:=decide_eq_false (by omega);have m11:decide ((n:Int)≤co)=false:=decide_eq_false (by omega);have m12:decide (ho<0)=false:=decide_eq_false (by omega);have m13:decide ((n:Int)≤ho)=false:=decide_eq_false (by omega);clear hq;go_wp2;exact h.out ..
end Ci
end
section
open Go.RowKit Go.Shelf
namespace Ci
open Nt
def Bk (W:World) (b:Nat) (t:TypeId) (l:List Value):Prop:=W.heap[b]? = some (.cells l.toArray t (0,0))
section
variable {W W':World} {b:Nat} {t:TypeId} {l:List Value}
theorem Bk.lt (h:Bk W b t l):b<W.heap.size:=(Array.getElem?_eq_some_iff.1 h).1
theorem Bk.cell (h:Bk W b t l) {j:Nat} {v:Value} (hj:l[j]? = some v):W.cell? ⟨b,j,none⟩=some v:=by
 unfold Bk at h;simp[World.cell?,h,hj]
theorem Bk.frozen (h:Bk W b t l) (j:Nat):W.frozen? ⟨b,j,none⟩=false:=by
 unfold Bk at h;simp[World.frozen?,h]
theorem Bk.new (w:World) (t:TypeId) (l:List Value):Bk (w.alloc (.cells l.toArray t)) w.heap.size t l:=heap_alloc_new _ _
theorem Bk.below (h:Bk W b t l) (hb:Below W.heap.size W W'):Bk W' b t l:=(hb.block b h.lt).trans h
theorem Bk.alloc (h:Bk W b t l) (o:Obj):Bk (W.alloc o) b t l:=(Below.heap_alloc W o b h.lt).trans h
theorem Bk.grown {row:Option Nat} (h:Bk W b t l) (hg:W.grownBy W' row) (hne:some b≠row):Bk W' b t l:=(hg.block b h.lt hne).trans h
theorem Bk.far (h:Bk W b t l) {p:Addr} (hp:b≠p.block) (v:Value):Bk (W.setCell p v) b t l:=(Below.heap_setCell _ _ _ _ hp).trans h
theorem Bk.set (h:Bk W b t l) (j:Nat) (v:Value):Bk (W.setCell ⟨b,j,none⟩ v) b t (l.set j v):=by
 unfold Bk at h ⊢;simp[World.setCell,Array.getElem?_modify,h]
end
theorem sumU_take {l:List Lk} {k:Nat} (h:k<l.length) (c:Int):sumU (l.take (k+1)) c=sumU (l.take k) c+if l[k].1=c then unitsN (lkP l[k]) else 0:=by
 unfold sumU;rw[List.take_succ_eq_append_getElem h,List.filter_append,List.map_append,List.sum_append]
 congr 1
 by_cases e:l[k].1=c
 · rw[if_pos e,List.filter_cons,if_pos (decide_eq_true e)];simp
 · rw[if_neg e,List.filter_cons,if_neg (by simpa using e)];simp
theorem sumU_le {n:Nat} {l:List Lk}:∀k,k≤l.length→(∀i (h:i<l.length),i<k→LinkAt n l i h)→∀c,sumU (l.take k) c≤6000:=by
 intro k
 induction k with
 | zero=>intro _ _ c;simp[sumU]
 | succ k ih =>
   intro hk h c;have h1:=ih (by omega) (fun i hi h2=>h i hi (by omega)) c;rw[sumU_take (by omega)]
   by_cases e:l[k].1=c
   · have h2:=(h k (by omega) (by omega)).2.2;rw[sumU_take (by omega),if_pos rfl,e]at h2;rw[if_pos e];exact h2
   · rw[if_neg e];omega
def TotM (W:World) (b:Nat) (l:List Lk) (k:Nat):Prop:=∃c f,MapK Tryz.prog 3 κi W b c f∧c≤k∧∀y:Int,(f y).getD (.int .i64 0)=.int .i64 (sumU (l.take k) y:Int)
def lastL (l:List Lk) (k:Nat):List Value:=match l[k-1]? with
 | some x=>if k=0 then [.int .i64 (-1),.int .i64 (-1)] else [.int .i64 x.1,.int .i64 x.2.1]
 | none=>[.int .i64 (-1),.int .i64 (-1)]
def lastC (l:List Lk) (k:Nat):Int:=match l[k-1]? with
 | some x=>if k=0 then -1 else x.1
 | none=>-1
def lastH (l:List Lk) (k:Nat):Int:=match l[k-1]? with
 | some x=>if k=0 then -1 else x.2.1
 | none=>-1
theorem last_zero (l:List Lk):lastC l 0=-1∧lastH l 0=-1:=by
 unfold lastC lastH
 cases l[0-1]?<;>simp
theorem last_succ {l:List Lk} {k:Nat} (h:k<l.length):lastC l (k+1)=l[k].1∧lastH l (k+1)=l[k].2.1:=by
 unfold lastC lastH;rw[Nat.add_sub_cancel,List.getElem?_eq_getElem h];simp
theorem rise_iff {l:List Lk} {k:Nat} (h:k<l.length) (h0:0≤l[k].1):(0<k→Rise (l[k-1]'(by omega)) l[k])↔(lastC l k<l[k].1∨(lastC l k=l[k].1∧lastH l k<l[k].2.1)):=by
 by_cases e:k=0
 · subst e;have:=last_zero l;constructor
   · intro _;left;omega
   · intro _ hc;omega
 · obtain⟨j,rfl⟩:∃j,k=j+1:=⟨k-1,by omega⟩;have hj:j<l.length:=by omega
   obtain⟨e1,e2⟩:=last_succ hj;rw[e1,e2];have hg:l[j+1-1]'(by omega)=l[j]:=by simp
   rw[hg];unfold Rise;exact⟨fun h=>h (by omega),fun h _=>h⟩
def GoodInv (w:World) (n:Nat) (l:List Lk) (mb lb:Nat) (k:Nat) (wr:World):Prop :=
 Hid (Below w.heap.size w wr)∧Hid (TotM wr mb l k)∧Hid (Bk wr lb 94 [.int .i64 (lastC l k),.int .i64 (lastH l k)])∧Hid (∀i (h:i<l.length),i<k→LinkAt n l i h)
theorem keyI:Go.Maps.Keyed Tryz.prog 3:=Go.Maps.int_keyed Tryz.underlying3
theorem zeroI (w:World):(zeroValue 3).run Tryz.prog w=.ok (.int .i64 0) w:=by kernel_rfl
theorem good_any (A:Option Addr) (cap n nb:Nat) (l:List Lk) (w:World) (hE:Env w) (hl:InLk w A l) (hl47:l.length≤140737488355328) (hn:n≤140737488355328) (hnb:w.cell? ⟨nb,0,none⟩=some (.int .i64 (n:Int)))
 (hz:∀x,x∈l→x.2.2.2.1.size≤140737488355328∧x.2.2.2.2.size≤140737488355328) (hi:∀x,x∈l→(-9223372036854775808≤x.1∧x.1≤9223372036854775807)∧(-9223372036854775808≤x.2.1∧x.2.1≤9223372036854775807)) :
 Calls Tryz.prog 73 #[.slice A l.length cap,.pointer (some ⟨nb,0,none⟩)] w fun e w'=>e=.returned (.bool (goodB n l))∧Below w.heap.size w w':=by
 have hmm:=@run_makeMap Tryz.prog;have hnl:=World.block_lt_of_cell? w _ hnb;have hM0:Hid (TotM ((w.alloc (.map #[] 0)).alloc (.cells #[.int .i64 (-1),.int .i64 (-1)] 94)) w.heap.size l 0):=⟨0,_,(MapK.made w _ _ _).alloc _,Nat.le_refl _,fun y=>rfl⟩
 have hL0:Hid (Bk ((w.alloc (.map #[] 0)).alloc (.cells #[.int .i64 (-1),.int .i64 (-1)] 94)) (w.heap.size+1) 94 [.int .i64 (lastC l 0),.int .i64 (lastH l 0)]):=by
  have h:=Bk.new (w.alloc (.map #[] 0)) 94 [.int .i64 (-1),.int .i64 (-1)];rw[World.size_alloc]at h;rw[(last_zero l).1,(last_zero l).2];exact h
 have hB0:Hid (Below w.heap.size w ((w.alloc (.map #[] 0)).alloc (.cells #[.int .i64 (-1),.int .i64 (-1)] 94))):=((Below.refl _ w).alloc (Nat.le_refl _) _).alloc (by simp) _;replace hE:=Lib.hid hE;replace hl:=Lib.hid hl;replace hz:=Lib.hid hz;replace hi:=Lib.hid hi;replace hnb:=Lib.hid hnb;have hGB:=Lib.hid (fun(k:Nat) (h:k<l.length) (hb:¬LinkAt n l k h)=>good_bad (n:=n) (l:=l) h hb);have hGA:=Lib.hid (good_all (n:=n) (l:=l));go_enter Tryz.func73,Tryz.ntmps73;go_wp2;clear hmm
 go_loopw [15] (fun i wr=>∃k:Nat,k≤l.length∧i=.int .i64 (k:Int)∧Hid (GoodInv w n l w.heap.size (w.heap.size+1) k wr)) (fun i _=>l.length-(intOf i).toNat)
 case atStart=>exact⟨0,Nat.zero_le _,rfl,hB0,hM0,hL0,fun i _ h=>absurd h (Nat.not_lt_zero _)⟩
 case round =>
  obtain⟨k,hk,rfl,hI⟩:=hrel;clear hM0 hL0 hB0;obtain⟨hB,hM,hL,hA⟩:=hI.out
  by_cases hlt:k<l.length
  · obtain ⟨b,o,rfl,hbl,hc⟩:=(hl.out.below hB.out) (by omega);obtain⟨e1,e2,e3,e4,e5⟩:=hc k hlt;have hzx:=hz.out l[k] (List.getElem_mem hlt);have hix:=hi.out l[k] (List.getElem_mem hlt);have hGBk:=Lib.hid (hGB.out k hlt);have hSu:=Lib.hid (sumU_take hlt);have hRi:=Lib.hid (rise_iff hlt);have hLs:=Lib.hid (last_succ hlt);have hsl:=sumU_le k hk hA.out
    have hAl:Hid (LinkAt n l k hlt→∀i (h:i<l.length),i<k+1→LinkAt n l i h):=fun h i hi h2=>by
     by_cases e:i=k
     · subst e;exact h
     · exact hA.out i hi (by omega)
    have hLA:Hid (LinkAt n l k hlt↔(Own n l[k]∧(0<k→Rise (l[k-1]'(by omega)) l[k])∧sumU (l.take (k+1)) l[k].1≤6000)):=Iff.rfl;obtain⟨x,hx⟩:∃x,x=l[k]:=⟨_,rfl⟩;rw[←hx]at e1 e2 e3 e4 e5 hzx hix hSu hRi hLs hLA;obtain⟨co,ho,g,nn,dd⟩:=x;replace e1:wr.cell? ⟨b,o+k*5,none⟩=some (.int .i64 co):=e1;replace e2:wr.cell? ⟨b,o+k*5+1,none⟩=some (.int .i64 ho):=e2;replace e3:wr.cell? ⟨b,o+k*5+2,none⟩=some (.bool g):=e3;replace e4:wr.cell? ⟨b,o+k*5+3,none⟩=some (.string nn):=e4;replace e5:wr.cell? ⟨b,o+k*5+4,none⟩=some (.string dd):=e5;obtain⟨⟨i1,i2⟩,i3,i4⟩:=hix;replace i1:-9223372036854775808≤co:=i1;replace i2:co≤9223372036854775807:=i2;replace i3:-9223372036854775808≤ho:=i3;replace i4:ho≤9223372036854775807:=i4;obtain⟨z1,z2⟩:=hzx;replace z1:nn.size≤140737488355328:=z1;replace z2:dd.size≤140737488355328:=z2;have hsk:=hsl co;have hp6:=units_le (g,nn,dd);have ku:Hid (∀W,Env W→Calls Tryz.prog 74 #[.agg #[.bool g,.string nn,.string dd]] W fun e w'=>e=.returned (.int .i64 (unitsN (g,nn,dd):Int))∧Below W.heap.size W w'):=fun W hW=>units_any g nn dd W hW z1 z2;replace hLA:Hid (LinkAt n l k hlt↔((0≤co∧co<n)∧(0≤ho∧ho<n)∧co≠ho∧unitsN (g,nn,dd)≠0)∧(0<k→Rise (l[k-1]'(by omega)) (co,ho,g,nn,dd))∧sumU (l.take (k+1)) co≤6000):=hLA;replace hRi:Hid (0≤co→((0<k→Rise (l[k-1]'(by omega)) (co,ho,g,nn,dd))↔(lastC l k<co∨(lastC l k=co∧lastH l k<ho)))):=hRi;replace hSu:Hid (∀c,sumU (l.take (k+1)) c=sumU (l.take k) c+if co=c then unitsN (g,nn,dd) else 0):=hSu;replace hLs:Hid (lastC l (k+1)=co∧lastH l (k+1)=ho):=hLs;have hSc:Hid (sumU (l.take (k+1)) co=sumU (l.take k) co+unitsN (g,nn,dd)):=by have h:=hSu.out co;rwa [if_pos rfl]at h
    obtain⟨p,hp⟩:∃p,p=unitsN (g,nn,dd):=⟨_,rfl⟩;rw[←hp]at hp6 ku hLA hSu hSc;obtain⟨sk,hske⟩:∃s,s=sumU (l.take k) co:=⟨_,rfl⟩;rw[←hske]at hsk hSc;obtain⟨lc,hlc⟩:∃s,s=lastC l k:=⟨_,rfl⟩;obtain⟨lh,hlh⟩:∃s,s=lastH l k:=⟨_,rfl⟩;rw[←hlc,←hlh]at hL hRi;replace hp:=Lib.hid hp;replace hx:=Lib.hid hx;replace hske:=Lib.hid hske;replace hlc:=Lib.hid hlc;replace hlh:=Lib.hid hlh;have i0:(0:Int)≤(k:Int):=by omega
    have i5:(k:Int)<(l.length:Int):=by omega
    clear hc hsl hI hl hz hi;have hx1:Hid (Bk (wr.alloc (.cells #[.int .i64 co,.int .i64 ho,.bool g,.string nn,.string dd] 42)) wr.heap.size 42 [.int .i64 co,.int .i64 ho,.bool g,.string nn,.string dd]):=Bk.new wr _ _;have hB1:=Lib.hid (hB.out.alloc hB.out.size (.cells #[.int .i64 co,.int .i64 ho,.bool g,.string nn,.string dd] 42));have hL1:=Lib.hid (hL.out.alloc (.cells #[.int .i64 co,.int .i64 ho,.bool g,.string nn,.string dd] 42));obtain⟨mc,f,hMK,hmc,hf⟩:=hM.out;have hM1:=Lib.hid (hMK.alloc (.cells #[.int .i64 co,.int .i64 ho,.bool g,.string nn,.string dd] 42));replace hf:=Lib.hid hf;clear hMK
    go_wp2_with fail
    obtain⟨W1,hW1⟩:∃W,W=wr.alloc (.cells #[.int .i64 co,.int .i64 ho,.bool g,.string nn,.string dd] 42):=⟨_,rfl⟩;rw[←hW1]at hx1 hB1 hL1 hM1 ⊢;have hxw:w.heap.size+1<wr.heap.size:=hL.out.lt;obtain⟨xb,hxb⟩:∃b,b=wr.heap.size:=⟨_,rfl⟩;rw[←hxb]at hx1 hxw ⊢;clear hW1 hxb hL hB hM e1 e2 e3 e4 e5 hbl
    have HO:Hid (∀W,Below W1.heap.size W1 W→W.cell? ⟨xb,0,none⟩=some (.int .i64 co)∧W.cell? ⟨xb,1,none⟩=some (.int .i64 ho)∧W.cell? ⟨xb,2,none⟩=some (.bool g)∧W.cell? ⟨xb,3,none⟩=some (.string nn)∧W.cell? ⟨xb,4,none⟩=some (.string dd)):=fun W h =>
     have h:=hx1.out.below h
     ⟨h.cell (j:=0) rfl,h.cell (j:=1) rfl,h.cell (j:=2) rfl,h.cell (j:=3) rfl,h.cell (j:=4) rfl⟩
    have hBw:Hid (Below W1.heap.size W1 W1):=Below.refl _ _;have hBa:Hid (Below W1.heap.size W1 (W1.alloc (.cells #[.int .i64 0,.int .i64 0] 94))):=(Below.refl _ _).alloc (Nat.le_refl _) _;have hBd:Hid (Below W1.heap.size W1 (W1.alloc (.cells #[.int .i64 0,.int .i64 0] 94)).drew):=hBa.out.drew;have hBe:Hid (Below W1.heap.size W1 W1.drew):=hBw.out.drew;have hEe:Hid (Env W1.drew):=hE.out.below (hB1.out.trans (hBe.out.mono hB1.out.size));have hEd:Hid (Env (W1.alloc (.cells #[.int .i64 0,.int .i64 0] 94)).drew):=hE.out.below (hB1.out.trans (hBd.out.mono hB1.out.size));have hxd:Hid (Bk (W1.alloc (.cells #[.int .i64 0,.int .i64 0] 94)).drew W1.heap.size 94 [.int .i64 0,.int .i64 0]):=Bk.new W1 94 _;have hxl:=hx1.out.lt
    go_region_held3 (fun w'=>w'.cell? ⟨xb,0,none⟩=some (.int .i64 co)∧w'.cell? ⟨xb,1,none⟩=some (.int .i64 ho)∧w'.cell? ⟨xb,2,none⟩=some (.bool g)∧w'.cell? ⟨xb,3,none⟩=some (.string nn)∧w'.cell? ⟨xb,4,none⟩=some (.string dd)) (first | (with_reducible exact HO.out _ hBw.out) | (with_reducible exact HO.out _ hBe.out) | (with_reducible exact HO.out _ hBd.out) | (with_reducible exact HO.out _ hBa.out) | (with_reducible exact HO.out _ hB2.out) | (with_reducible exact HO.out _ (hB2.out.alloc hB2.out.size _)) | (with_reducible exact HO.out _ ((hB2.out.setCell (Nat.le_refl _) _).setCell (Nat.le_refl _) _)) | go_keep)
     (first
       | (go_at_call 74;refine(ku.out _ ?_).mono ?_;(with_reducible exact hEd.out);rintro e w2 ⟨rfl,hb2⟩;have hx2:=Lib.hid (hxd.out.below hb2);have hB2:=Lib.hid (hBd.out.trans (hb2.mono hBd.out.size));have y1:=hx2.out.cell (j:=0) rfl;have y2:=hx2.out.cell (j:=1) rfl;have y3:=hx2.out.frozen 0;have y4:=hx2.out.frozen 1;have y5:=hx2.out.lt;clear hb2)
       | (go_at_call 74;refine(ku.out _ ?_).mono ?_;(with_reducible exact hEe.out);rintro e w2 ⟨rfl,hb2⟩;have hB2:=Lib.hid (hBe.out.trans (hb2.mono hBe.out.size));clear hb2))
    all_goals (
     first
      | (obtain⟨kb,hkb⟩:∃b,b=w2.heap.size:=⟨_,rfl⟩;obtain⟨w5,hw5⟩:∃W,W=w2.alloc (.cells #[.int .i64 co,.int .i64 ho] 94):=⟨_,rfl⟩;rw[←hw5,←hkb];have hk5:Hid (Bk w5 kb 94 [.int .i64 co,.int .i64 ho]):=(by rw[hw5,hkb];exact Bk.new w2 _ _);have hB5:Hid (Below W1.heap.size W1 w5):=(by rw[hw5];exact hB2.out.alloc hB2.out.size _);have hkl:W1.heap.size≤kb:=(by rw[hkb];exact hB2.out.size))
      | (obtain⟨kb,hkb⟩:∃b,b=W1.heap.size:=⟨_,rfl⟩;obtain⟨w5,hw5⟩:∃W,W=(w2.setCell ⟨W1.heap.size,0,none⟩ (.int .i64 co)).setCell ⟨W1.heap.size,1,none⟩ (.int .i64 ho):=⟨_,rfl⟩;rw[←hw5,←hkb];have hk5:Hid (Bk w5 kb 94 [.int .i64 co,.int .i64 ho]):=(by rw[hw5,hkb];exact(hx2.out.set 0 _).set 1 _);have hB5:Hid (Below W1.heap.size W1 w5):=(by rw[hw5];exact(hB2.out.setCell (Nat.le_refl _) _).setCell (Nat.le_refl _) _);have hkl:W1.heap.size≤kb:=(by rw[hkb];exact Nat.le_refl _);clear hx2 y1 y2 y3 y4 y5)
     clear hw5 hkb hB2 hBe hBd hBa hxd hEe hEd hBw;have hx5:=Lib.hid (hx1.out.below hB5.out);have hL5:=Lib.hid (hL1.out.below hB5.out);have hM5:=Lib.hid (hM1.out.below hB5.out);have hB6:=Lib.hid (hB1.out.trans (hB5.out.mono hB1.out.size));have hkx:xb<kb:=by omega
     clear HO hx1 hL1 hM1 hB1 hB5 hxl hkl;have hk1:=key_i Tryz.underlying3 i1 i2;have hlook:=hM5.out.look keyI Tryz.underlying92 (zeroI _) hk1;rw[hf.out co,←hske.out]at hlook;obtain⟨w6,hrun,hM6,hg6⟩:=hM5.out.put κi_inj keyI Tryz.underlying92 (by unfold maxLen;omega) hk1 (.int .i64 ((sk:Int)+(p:Int)));have u1:=hx5.out.cell (j:=0) rfl;have u2:=hk5.out.cell (j:=0) rfl;have u3:=hk5.out.cell (j:=1) rfl;have s0:(0:Int)≤(sk:Int)+(p:Int):=by omega
     go_upto_region 7 with(fail)
     have hwm:some xb≠some w.heap.size:=fun e=>by have:=Option.some.inj e;omega
     have hkm:some kb≠some w.heap.size:=fun e=>by have:=Option.some.inj e;omega
     have hlm:some (w.heap.size+1)≠some w.heap.size:=fun e=>by have:=Option.some.inj e;omega
     have hx7:=Lib.hid (hx5.out.grown hg6 hwm);have hk7:=Lib.hid (hk5.out.grown hg6 hkm);have hL7:=Lib.hid (hL5.out.grown hg6 hlm);have hB7:Hid (Below w.heap.size w w6):=hB6.out.grown hg6 hB6.out.size (fun b e=>by cases e;exact Nat.le_refl _);have hlook6:=hM6.look keyI Tryz.underlying92 (zeroI _) hk1;rw[putF_same]at hlook6;replace hlook6:(Instr.lookup 92 (.map (some w.heap.size)) (.int .i64 co) false).run Tryz.prog w6=.ok (.int .i64 ((sk:Int)+(p:Int))) w6:=hlook6
     have hM7:Hid (TotM w6 w.heap.size l (k+1)):=by
      refine⟨_,_,hM6,by split<;>omega,fun y=>?_⟩
      by_cases e:y=co
      · rw[e,putF_same,hSc.out];rfl
      · rw[putF_other e,hf.out y,hSu.out y,if_neg fun c=>e c.symm,Nat.add_zero]
     have n1:=(hB7.out.cell (p:=⟨nb,0,none⟩) hnl).trans hnb.out;have hkl7:Hid (w.heap.size+1≠kb):=fun e=>by omega
     clear hrun hlook hk1 hx5 hk5 hL5 hM5 hB6 hM6 hg6 u1 u2 u3 hwm hkm hlm hf;have u1:=hx7.out.cell (j:=0) rfl;have u2:=hk7.out.cell (j:=0) rfl;have u3:=hk7.out.cell (j:=1) rfl;have u4:=hL7.out.cell (j:=0) rfl;have u5:=hL7.out.cell (j:=1) rfl;have u6:=hL7.out.frozen 0;have u7:=hL7.out.frozen 1;have u8:=hL7.out.lt;have u9:=hk7.out.lt;clear u6 u7;obtain⟨r,hr⟩:∃r:Bool,r=decide (lc<co∨(lc=co∧lh<ho)):=⟨_,rfl⟩;obtain⟨q,hq⟩:∃q:Bool,q=decide (co<0∨(n:Int)≤co∨ho<0∨(n:Int)≤ho∨co=ho∨r=false∨p=0∨6000<sk+p):=⟨_,rfl⟩;have hlook7:(Instr.lookup 92 (.map (some w.heap.size)) (.int .i64 co) false).run Tryz.prog w6=.ok (.int .i64 ((sk+p:Nat):Int)) w6:=hlook6;replace hr:=Lib.hid hr;replace hq:=Lib.hid hq;clear hlook6;refine greg7 kb (w.heap.size+1) co ho lc lh r hr.out w6 u2 u3 u4 u5 ?_;intro u33 u34 u35 u36 u37 u38 u39 u40 u41 u42 u43 u44 u45 u46 u47 u48 u49 u50 u51
     go_upto_region 8 with(fail)
     refine greg8 xb kb nb w.heap.size n p (sk+p) co ho r q hq.out w6 hp6 (by omega) hn u1 u2 u3 n1 hlook7 ?_;intro v52 v53 v54 v55 v56 v57 v58 v59 v60 v61 v62 v63 v64 v65 v66 v67 v68 v69 v70 v71 v72 v73 v74 v75 v76 v77 v78 v79 v80 v81 v82 v83 v84 v85 v86 v87 v88 v89 v90 v91 v92;clear u1 u2 u3 u4 u5 n1 hlook7 s0 hp6 hsk i0 i5
     cases q with
     | true =>
       have HG:Hid (goodB n l=false):=hGBk.out fun h=>by
        have h2:=hLA.out.1 h;have h3:=hq.out;have h4:=of_decide_eq_true h3.symm;have h5:=h2.2.2;rw[hSc.out]at h5;have h6:=(hRi.out h2.1.1.1).1 h2.2.1;have h7:r=true:=by rw[hr.out];exact decide_eq_true h6
        rw[h7]at h4;obtain⟨⟨d1,d2⟩,⟨d3,d4⟩,d5,d6⟩:=h2.1
        rcases h4 with c | c | c | c | c | c | c | c
        · omega
        · omega
        · omega
        · omega
        · exact d5 c
        · cases c
        · exact d6 c
        · omega
       clear hq hr hLA hRi hSc hGBk;go_wp2;go_ret;exact⟨ret_bool HG.out.symm,hB7.out⟩
     | false =>
       have hno:Hid (¬(co<0∨(n:Int)≤co∨ho<0∨(n:Int)≤ho∨co=ho∨r=false∨p=0∨6000<sk+p)):=of_decide_eq_false hq.out.symm
       have hrt:Hid (lc<co∨(lc=co∧lh<ho)):=by
        have h:=hr.out
        have h1:r=true:=by
         cases r
         · exact absurd (.inr (.inr (.inr (.inr (.inr (.inl rfl)))))) hno.out
         · rfl
        rw[h1]at h;have h9:lc<co∨(lc=co∧lh<ho):=of_decide_eq_true h.symm;exact h9
       have HN:Hid (∀i (h:i<l.length),i<k+1→LinkAt n l i h):=hAl.out (hLA.out.2 (by
        have h:=hno.out;refine⟨⟨⟨by omega,by omega⟩,⟨by omega,by omega⟩,fun c=>h (.inr (.inr (.inr (.inr (.inl c))))),by omega⟩,(hRi.out (by omega)).2 hrt.out,by rw[hSc.out];omega⟩))
       have hL8:Hid (Bk ((w6.setCell ⟨w.heap.size+1,0,none⟩ (.int .i64 co)).setCell ⟨w.heap.size+1,1,none⟩ (.int .i64 ho)) (w.heap.size+1) 94 [.int .i64 (lastC l (k+1)),.int .i64 (lastH l (k+1))]):=by rw[hLs.out.1,hLs.out.2];exact(hL7.out.set 0 _).set 1 _
       have hB8:Hid (Below w.heap.size w ((w6.setCell ⟨w.heap.size+1,0,none⟩ (.int .i64 co)).setCell ⟨w.heap.size+1,1,none⟩ (.int .i64 ho))):=(hB7.out.setCell (p:=⟨w.heap.size+1,0,none⟩) (Nat.le_succ _) _).setCell (p:=⟨w.heap.size+1,1,none⟩) (Nat.le_succ _) _
       have hM8:Hid (TotM ((w6.setCell ⟨w.heap.size+1,0,none⟩ (.int .i64 co)).setCell ⟨w.heap.size+1,1,none⟩ (.int .i64 ho)) w.heap.size l (k+1)):=by
        obtain⟨c,f,h1,h2⟩:=hM7.out;exact⟨c,f,(h1.set (a:=⟨w.heap.size+1,0,none⟩) (Nat.ne_of_lt (Nat.lt_succ_self _)) _).set (a:=⟨w.heap.size+1,1,none⟩) (Nat.ne_of_lt (Nat.lt_succ_self _)) _,h2⟩
       clear hq hr hLA hRi hSc hGBk hno hrt hAl;have u2:=hk7.out.cell (j:=0) rfl;have u3:=hk7.out.cell (j:=1) rfl;have u4:=hL7.out.cell (j:=0) rfl;have u5:=hL7.out.cell (j:=1) rfl;have u6:=hL7.out.frozen 0;have u7:=hL7.out.frozen 1;have hk9:=hkl7.out;go_wp2
       go_roundw
       case rel=>exact⟨k+1,by omega,by go_num,hB8,hM8,hL8,HN⟩
       case measure=>simp[intOf];omega)
  · obtain rfl:k=l.length:=by omega
    have HG:=Lib.hid (hGA.out fun i h=>hA.out i h h);go_wp2;go_ret;exact⟨ret_bool HG.out.symm,hB.out⟩
end Ci
end
section
open Go.RowKit Go.Shelf
namespace Ci
open Nt
structure StIn (w:World) (s:SR) (Ap Ac Av:Option Addr):Prop where
 ps:InStr w Ap s.ps
 cap:InLk w Ac s.cap
 vot:InLk w Av s.vot
 np:s.ps.length≤140737488355328
 nc:s.cap.length≤140737488355328
 nv:s.vot.length≤140737488355328
 zp:∀x,x∈s.ps→x.size≤140737488355328
 zc:∀x,x∈s.cap→x.2.2.2.1.size≤140737488355328∧x.2.2.2.2.size≤140737488355328
 zv:∀x,x∈s.vot→x.2.2.2.1.size≤140737488355328∧x.2.2.2.2.size≤140737488355328
 ic:∀x,x∈s.cap→(-9223372036854775808≤x.1∧x.1≤9223372036854775807)∧(-9223372036854775808≤x.2.1∧x.2.1≤9223372036854775807)
 iv:∀x,x∈s.vot→(-9223372036854775808≤x.1∧x.1≤9223372036854775807)∧(-9223372036854775808≤x.2.1∧x.2.1≤9223372036854775807)
theorem StIn.below {w w':World} {s:SR} {Ap Ac Av:Option Addr} (h:StIn w s Ap Ac Av) (hb:Below w.heap.size w w'):StIn w' s Ap Ac Av :=
 ⟨h.ps.below hb,h.cap.below hb,h.vot.below hb,h.np,h.nc,h.nv,h.zp,h.zc,h.zv,h.ic,h.iv⟩
theorem leq_bin (t:TypeId) (a b:ByteArray):binOp .leq t (.string a) (.string b)=pure (.bool (leqB a b)):=by simp[binOp,Op.stringOp,leqB]
abbrev SC (s:SR) (Ap Ac Av:Option Addr) (cp cc cv:Nat):List Value:=[.slice Ap s.ps.length cp,.slice Ac s.cap.length cc,.slice Av s.vot.length cv]
theorem Sound_any (s:SR) (Ap Ac Av:Option Addr) (cp cc cv:Nat) (w:World) (hE:Env w) (hs:StIn w s Ap Ac Av) :
 Calls Tryz.prog 28 #[.agg #[.slice Ap s.ps.length cp,.slice Ac s.cap.length cc,.slice Av s.vot.length cv]] w fun e w'=>e=.returned (.bool (soundB s))∧Below w.heap.size w w':=by
 have hp47:=hs.np;have hNB:=Lib.hid (fun(k:Nat) (h:k<s.ps.length) (hb:¬NameAt s.ps k h)=>names_bad (l:=s.ps) h hb);have hNA:=Lib.hid (names_all (l:=s.ps));have hX0:Hid (Bk (w.alloc (.cells #[.slice Ap s.ps.length cp,.slice Ac s.cap.length cc,.slice Av s.vot.length cv] 25)) w.heap.size 25 (SC s Ap Ac Av cp cc cv)):=Bk.new w _ _;have hB0:Hid (Below w.heap.size w (w.alloc (.cells #[.slice Ap s.ps.length cp,.slice Ac s.cap.length cc,.slice Av s.vot.length cv] 25))):=(Below.refl _ w).alloc (Nat.le_refl _) _;have kg:=Lib.hid (fun A cap nb l W hE hl h1 h2 h3 h4 h5=>good_any A cap s.ps.length nb l W hE hl h1 h2 h3 h4 h5);replace hE:=Lib.hid hE;replace hs:=Lib.hid hs;go_enter Tryz.func28,Tryz.ntmps28;go_wp2
 go_loopw [10] (fun i wr=>∃k:Nat,k≤s.ps.length∧i=.int .i64 (k:Int)∧Hid (Below w.heap.size w wr)∧Hid (Bk wr w.heap.size 25 (SC s Ap Ac Av cp cc cv))∧Hid (∀i (h:i<s.ps.length),i<k→NameAt s.ps i h)) (fun i _=>s.ps.length-(intOf i).toNat)
 case atStart=>exact⟨0,Nat.zero_le _,rfl,hB0,hX0,fun i _ h=>absurd h (Nat.not_lt_zero _)⟩
 case round =>
  obtain⟨k,hk,rfl,hB,hX,hA⟩:=hrel;clear hX0 hB0
  by_cases hlt:k<s.ps.length
  · obtain ⟨b,o,rfl,hbl,hc⟩:=(hs.out.below hB.out).ps (by omega);have e1:=hc k hlt;have e0:Hid (0<k→wr.cell? ⟨b,o+(k-1),none⟩=some (.string (s.ps[k-1]'(by omega)))):=fun h=>hc (k-1) (by omega);have zx:=hs.out.zp s.ps[k] (List.getElem_mem hlt);have hNk:=Lib.hid (hNB.out k hlt)
    have hAl:Hid (NameAt s.ps k hlt→∀i (h:i<s.ps.length),i<k+1→NameAt s.ps i h):=fun h i hi h2=>by
     by_cases e:i=k
     · subst e;exact h
     · exact hA.out i hi (by omega)
    have hNI:Hid (NameAt s.ps k hlt↔identB s.ps[k]=true∧(0<k→leqB s.ps[k] (s.ps[k-1]'(by omega))=false)):=Iff.rfl;obtain⟨nm,hnm⟩:∃x,x=s.ps[k]:=⟨_,rfl⟩;rw[←hnm]at e1 zx hNI;replace hnm:=Lib.hid hnm;have u0:=hX.out.cell (j:=0) rfl;have u9:=hX.out.lt;have i0:(0:Int)≤(k:Int):=by omega
    have i1:(k:Int)<(s.ps.length:Int):=by omega
    have kn:=isName_any nm;clear hc
    cases hid:identB nm with
    | false =>
      have HG:Hid (soundB s=false):=by
       have:namesB s.ps=false:=hNk.out fun h=>by have:=(hNI.out.1 h).1;rw[hid]at this;cases this
       unfold Hid soundB;rw[this];rfl
      rw[hid]at kn;replace kn:=Lib.hid kn;clear hid hNI hAl
      go_wp2_with fail
      refine(kn.out _ (by omega)).mono ?_;rintro e w2 ⟨rfl,hb⟩;have hB2:=Lib.hid (hB.out.trans (hb.mono hB.out.size));clear hb;go_wp2;go_ret;exact⟨ret_bool HG.out.symm,hB2.out⟩
    | true =>
      rw[hid]at kn;replace kn:=Lib.hid kn
      by_cases hk0:k=0
      · have m1:decide (0<(k:Int))=false:=decide_eq_false (by omega);have m2:decide (0<k)=false:=decide_eq_false (by omega);have HN:=Lib.hid (hAl.out (hNI.out.2 ⟨hid,fun h=>by omega⟩));replace hk0:=Lib.hid hk0;clear hid hNI hAl hNk
        go_wp2_with fail
        refine(kn.out _ (by omega)).mono ?_;rintro e w2 ⟨rfl,hb⟩;have hB2:=Lib.hid (hB.out.trans (hb.mono hB.out.size));have hX2:=Lib.hid (hX.out.below hb);clear hb e1 u0 u9;go_wp2
        go_roundw
        case rel=>exact⟨k+1,by omega,by go_num,hB2,hX2,HN⟩
        case measure=>simp[intOf];omega
      · have m1:decide (0<(k:Int))=true:=decide_eq_true (by omega);have m2:decide (0<k)=true:=decide_eq_true (by omega);have e2:=e0.out (by omega);obtain⟨pm,hpm⟩:∃x,x=s.ps[k-1]'(by omega):=⟨_,rfl⟩;rw[←hpm]at e2
        have hNI2:Hid (NameAt s.ps k hlt↔identB nm=true∧leqB nm pm=false):=by
         rw[hpm];exact⟨fun h=>⟨(hNI.out.1 h).1,(hNI.out.1 h).2 (by omega)⟩,fun h=>hNI.out.2 ⟨h.1,fun _=>h.2⟩⟩
        replace hpm:=Lib.hid hpm;have hbin:=leq_bin 9 nm pm;have j1:(0:Int)≤(k:Int)-1:=by omega
        have j2:(k:Int)-1<(s.ps.length:Int):=by omega
        have j3:((k:Int)-1).toNat=k-1:=by omega
        cases hlq:leqB nm pm with
        | true =>
          have HG:Hid (soundB s=false):=by
           have:namesB s.ps=false:=hNk.out fun h=>by have:=(hNI2.out.1 h).2;rw[hlq]at this;cases this
           unfold Hid soundB;rw[this];rfl
          rw[hlq]at hbin;clear hid hNI hAl hNI2 hlq e0 hNk
          go_wp2_with fail
          refine(kn.out _ (by omega)).mono ?_;rintro e w2 ⟨rfl,hb⟩;have hB2:=Lib.hid (hB.out.trans (hb.mono hB.out.size));have hX2:=Lib.hid (hX.out.below hb);replace e2:=(hb.cell (p:=⟨b,o+(k-1),none⟩) hbl).trans e2;clear hb e1 u0 u9;have u0:=hX2.out.cell (j:=0) rfl;have u9:=hX2.out.lt;go_wp2;go_ret;exact⟨ret_bool HG.out.symm,hB2.out⟩
        | false =>
          have HN:=Lib.hid (hAl.out (hNI2.out.2 ⟨hid,hlq⟩));rw[hlq]at hbin;clear hid hNI hAl hNI2 hlq e0 hNk
          go_wp2_with fail
          refine(kn.out _ (by omega)).mono ?_;rintro e w2 ⟨rfl,hb⟩;have hB2:=Lib.hid (hB.out.trans (hb.mono hB.out.size));have hX2:=Lib.hid (hX.out.below hb);replace e2:=(hb.cell (p:=⟨b,o+(k-1),none⟩) hbl).trans e2;clear hb e1 u0 u9;have u0:=hX2.out.cell (j:=0) rfl;have u9:=hX2.out.lt;go_wp2
          go_roundw
          case rel=>exact⟨k+1,by omega,by go_num,hB2,hX2,HN⟩
          case measure=>simp[intOf];omega
  · obtain rfl:k=s.ps.length:=by omega
    have hnames:=hNA.out fun i h=>hA.out i h h
    have HG:Hid (soundB s=(decide (s.ps.length≤60)&&(goodB s.ps.length s.cap&&goodB s.ps.length s.vot))):=by
     unfold Hid soundB;rw[hnames];rfl
    clear hnames hA hNA hNB;have u0:=hX.out.cell (j:=0) rfl;have u1:=hX.out.cell (j:=1) rfl;have u2:=hX.out.cell (j:=2) rfl;have u9:=hX.out.lt;have hX3:=Lib.hid (hX.out.alloc (.cells #[.int .i64 (s.ps.length:Int)] 3));have hN3:Hid (Bk (wr.alloc (.cells #[.int .i64 (s.ps.length:Int)] 3)) wr.heap.size 3 [.int .i64 (s.ps.length:Int)]):=Bk.new wr _ _;have hB3:=Lib.hid (hB.out.alloc hB.out.size (.cells #[.int .i64 (s.ps.length:Int)] 3))
    by_cases h60:s.ps.length≤60
    · cases hgc:goodB s.ps.length s.cap with
      | false =>
        have kc:=Lib.hid (kg.out Ac cc wr.heap.size s.cap _ (hE.out.below hB3.out) (hs.out.below hB3.out).cap hs.out.nc hp47 (hN3.out.cell (j:=0) rfl) hs.out.zc hs.out.ic);rw[hgc]at kc;rw[hgc,Bool.false_and,Bool.and_false]at HG;replace HG:=Lib.hid HG.out;clear hgc kg
        go_wp2_with fail
        refine kc.out.mono ?_;rintro e w4 ⟨rfl,hb⟩;have hB4:=Lib.hid (hB3.out.trans (hb.mono hB3.out.size));clear hb;go_wp2;go_ret;exact⟨ret_bool HG.out.symm,hB4.out⟩
      | true =>
        have kc:=Lib.hid (kg.out Ac cc wr.heap.size s.cap _ (hE.out.below hB3.out) (hs.out.below hB3.out).cap hs.out.nc hp47 (hN3.out.cell (j:=0) rfl) hs.out.zc hs.out.ic);have kv:=Lib.hid (fun W h1 h2 h3=>kg.out Av cv wr.heap.size s.vot W h1 h2 hs.out.nv hp47 h3 hs.out.zv hs.out.iv);rw[hgc]at kc;rw[hgc,Bool.true_and,decide_eq_true h60,Bool.true_and]at HG;replace HG:=Lib.hid HG.out;clear hgc kg
        go_wp2_with fail
        refine kc.out.mono ?_;rintro e w4 ⟨rfl,hb⟩;have hB4:=Lib.hid (hB3.out.trans (hb.mono hB3.out.size));have hX4:=Lib.hid (hX3.out.below hb);have hN4:=Lib.hid (hN3.out.below hb);clear hb u0 u1 u2 u9;have u0:=hX4.out.cell (j:=0) rfl;have u1:=hX4.out.cell (j:=1) rfl;have u2:=hX4.out.cell (j:=2) rfl;have u9:=hX4.out.lt
        go_wp2_with fail
        refine(kv.out _ (hE.out.below hB4.out) (hs.out.below hB4.out).vot (hN4.out.cell (j:=0) rfl)).mono ?_;rintro e w5 ⟨rfl,hb⟩;have hB5:=Lib.hid (hB4.out.trans (hb.mono hB4.out.size));clear hb;go_wp2;go_ret;exact⟨ret_bool (by rw[HG.out]),hB5.out⟩
    · have m1:decide ((s.ps.length:Int)≤60)=false:=decide_eq_false (by omega);have m2:decide (s.ps.length≤60)=false:=decide_eq_false h60;rw[m2,Bool.false_and]at HG;replace HG:=Lib.hid HG.out;go_wp2;go_ret;exact⟨ret_bool HG.out.symm,hB3.out⟩
end Ci
end
section
open Go.ChangeShapes Go.WideShapes Go.ChangeAt Go.RowKit Go.Shelf Go.Joins Go.Deep
namespace Ci
open Nt
section
variable {H:Type}
theorem weightsAll_mem {P:Program} {e:TypeId} {d:DataW H}:∀{l:List (DataW H)},d∈l→∀m∈d.weights P e,m∈DataW.weightsAll P e l:=by
 intro l
 induction l with
 | nil=>intro h;cases h
 | cons a l ih =>
   intro h m hm;rw[DataW.weightsAll,List.mem_append]
   rcases List.mem_cons.1 h with rfl | h
   · exact .inl hm
   · exact .inr (ih h m hm)
theorem trodAll_stays {enc:TypeId×Value→H} {P:Program} {W W':World} {base:Nat} {sp':Nat→Bool} (hl:laidOutB P=true):∀{ts:List TypeId} {vs:List Value} {ds:List (DataW H)} {ps:List MemPlace},
 (∀t∈ts,P.readableRec t=true∧t<P.types.size)→DataW.TrodAll enc P W base (fun _=>true) true ts vs ds ps→(∀p∈ps,W.sameAt W' p)→(∀p∈ps,sp' p.block=true)→DataW.TrodAll enc P W' base sp' true ts vs ds ps
 | [],[],[],_,_,h,_,_=>h
 | _ :: _,_::_,_::_,_,hT,⟨p,q,h1,h2,e⟩,hs,hb =>
   ⟨p,q,WideElems.Trod_stays hl (hT _ (List.mem_cons.2 (.inl rfl))).1 (hT _ (List.mem_cons.2 (.inl rfl))).2 h1 (fun x hx=>hs x (by rw[e];exact List.mem_append_left _ hx)) (fun x hx=>hb x (by rw[e];exact List.mem_append_left _ hx)),
     trodAll_stays hl (fun t ht=>hT t (List.mem_cons.2 (.inr ht))) h2 (fun x hx=>hs x (by rw[e];exact List.mem_append_right _ hx)) (fun x hx=>hb x (by rw[e];exact List.mem_append_right _ hx)),e⟩
theorem sizes_at {ts:List TypeId} {ds:List (DataW H)} {j:Nat} {t:TypeId} {d:DataW H} (hsz:(DataW.weightsEach Tryz.prog ts ds).all (·≤reachBytes)=true) (ht:ts[j]? = some t) (hd:ds[j]? = some d):∀m∈d.weights Tryz.prog t,m≤140737488351232:=fun m hm =>
 of_decide_eq_true (List.all_eq_true.1 hsz _ (DataW.weights_mem_each (P:=Tryz.prog) ht hd m hm))
theorem size_sl {α:Type} {f:α→DataW H} {l:List α} {d:DataW H} {t e:TypeId} (ht:Tryz.prog.underlying t=some (.slice e)) (hb:0<Tryz.prog.bytesOf e) (h:isSl f l d) (hw:∀m∈d.weights Tryz.prog t,m≤140737488351232) :
 l.length≤140737488355328∧∀x∈l,∀m∈(f x).weights Tryz.prog e,m≤140737488351232:=by
 rcases h with⟨_,rfl⟩ | ⟨rest,rfl⟩
 · exact⟨by simp,fun x h=>absurd h (by simp)⟩
 · have e1:(DataW.slice (l.map f) rest).weights Tryz.prog t=((l.map f).length+rest.length)*Tryz.prog.bytesOf e::(DataW.weightsAll Tryz.prog e (l.map f)++DataW.weightsAll Tryz.prog e rest):=by
    simp[DataW.weights,ht]
   rw[e1]at hw;have h1:=hw _ (List.mem_cons_self ..);rw[List.length_map]at h1;refine⟨?_,fun x hx m hm=>hw _ (List.mem_cons_of_mem _ (List.mem_append_left _ (weightsAll_mem (List.mem_map_of_mem (f:=f) hx) m hm)))⟩;have h2:l.length≤(l.length+rest.length)*Tryz.prog.bytesOf e:=Nat.le_trans (Nat.le_add_right _ _) (Nat.le_mul_of_pos_right _ hb);omega
theorem size_str {x:ByteArray} (h:∀m∈(strD (H:=H) x).weights Tryz.prog 9,m≤140737488351232):x.size≤140737488355328:=by
 have h1:=h x.data.toList.length (by simp[strD,DataW.weights]);have z1:x.size=x.data.toList.length:=Lib.size_eq _;omega
theorem size_lk {x:Lk} (h:∀m∈(lkD (H:=H) x).weights Tryz.prog 42,m≤140737488351232):x.2.2.2.1.size≤140737488355328∧x.2.2.2.2.size≤140737488355328:=by
 have h1:=h x.2.2.2.1.data.toList.length (by simp[lkD,DataW.weights,DataW.weightsEach,Tryz.underlying42,Tryz.underlying37]);have h2:=h x.2.2.2.2.data.toList.length (by simp[lkD,DataW.weights,DataW.weightsEach,Tryz.underlying42,Tryz.underlying37]);have z1:x.2.2.2.1.size=x.2.2.2.1.data.toList.length:=Lib.size_eq _;have z2:x.2.2.2.2.size=x.2.2.2.2.data.toList.length:=Lib.size_eq _;omega
end
section
variable {H:Type} {enc:TypeId×Value→H} {w:World} {base:Nat} {held:Bool}
def isSt (s:SR) (d:DataW H):Prop:=∃dp dc dv,d=.agg [dp,dc,dv]∧isSl strD s.ps dp∧isSl lkD s.cap dc∧isSl lkD s.vot dv
theorem cells_st:Tryz.prog.cellsOf 25=3:=by kernel_rfl
theorem open_st0 {r:Go.Reach} {b0:Nat} {v:Value} {d:DataW H} {p:List MemPlace} (hv:Value.okWide Tryz.prog w r b0 25 v) (h:DataW.Trod enc Tryz.prog w base (fun _=>true) held 25 v d p) :
 ∃(Ap Ac Av:Option Addr) (cp cc cv:Nat) (s:SR),v=.agg #[.slice Ap s.ps.length cp,.slice Ac s.cap.length cc,.slice Av s.vot.length cv]∧isSt s d∧InStr w Ap s.ps∧InLk w Ac s.cap∧InLk w Av s.vot∧(∀y,y∈s.cap→in64 y.1∧in64 y.2.1)∧(∀y,y∈s.vot→in64 y.1∧in64 y.2.1)∧s.cap.length≤cc:=by
 obtain⟨c0,c1,c2,y0,y1,y2,m,rfl,rfl,_,hy0,hy1,hy2⟩:=open_agg3 Tryz.underlying25 (by kernel_rfl) cells_st hv h;obtain⟨Ap,cp,ps,e0,i0,m0⟩:=open_strs' hy0;obtain⟨Ac,cc,cap,e1,i1,m1,z1,k1⟩:=open_lks0 hy1;obtain⟨Av,cv,vot,e2,i2,m2,z2⟩:=open_lks hy2;simp only[List.cons.injEq,and_true]at e0 e1 e2;subst e0 e1 e2;exact⟨Ap,Ac,Av,cp,cc,cv,⟨ps,cap,vot⟩,rfl,⟨_,_,_,rfl,i0,i1,i2⟩,m0,m1,m2,z1,z2,k1⟩
theorem open_st {r:Go.Reach} {b0:Nat} {v:Value} {d:DataW H} {p:List MemPlace} (hv:Value.okWide Tryz.prog w r b0 25 v) (h:DataW.Trod enc Tryz.prog w base (fun _=>true) held 25 v d p) :
 ∃(Ap Ac Av:Option Addr) (cp cc cv:Nat) (s:SR),v=.agg #[.slice Ap s.ps.length cp,.slice Ac s.cap.length cc,.slice Av s.vot.length cv]∧isSt s d∧InStr w Ap s.ps∧InLk w Ac s.cap∧InLk w Av s.vot∧(∀y,y∈s.cap→in64 y.1∧in64 y.2.1)∧∀y,y∈s.vot→in64 y.1∧in64 y.2.1:=by
 obtain⟨Ap,Ac,Av,cp,cc,cv,s,h1,h2,h3,h4,h5,h6,h7,_⟩:=open_st0 hv h;exact⟨Ap,Ac,Av,cp,cc,cv,s,h1,h2,h3,h4,h5,h6,h7⟩
theorem stIn_of {s:SR} {d:DataW H} {Ap Ac Av:Option Addr} (h:isSt s d) (hw:∀m∈d.weights Tryz.prog 25,m≤140737488351232) (m0:InStr w Ap s.ps) (m1:InLk w Ac s.cap) (m2:InLk w Av s.vot)
 (z1:∀y,y∈s.cap→in64 y.1∧in64 y.2.1) (z2:∀y,y∈s.vot→in64 y.1∧in64 y.2.1):StIn w s Ap Ac Av:=by
 obtain⟨dp,dc,dv,rfl,i0,i1,i2⟩:=h
 have e:(DataW.agg [dp,dc,dv]).weights Tryz.prog 25=dp.weights Tryz.prog 22++(dc.weights Tryz.prog 23++dv.weights Tryz.prog 23):=by
  simp[DataW.weights,DataW.weightsEach,Tryz.underlying25]
 rw[e]at hw;obtain⟨a1,a2⟩:=size_sl Tryz.underlying22 (Nat.lt_of_lt_of_eq (by decide:0<16) (by kernel_rfl)) i0 fun m hm=>hw m (List.mem_append_left _ hm);obtain⟨b1,b2⟩:=size_sl Tryz.underlying23 (Nat.lt_of_lt_of_eq (by decide:0<56) (by kernel_rfl)) i1 fun m hm=>hw m (List.mem_append_right _ (List.mem_append_left _ hm));obtain⟨c1,c2⟩:=size_sl Tryz.underlying23 (Nat.lt_of_lt_of_eq (by decide:0<56) (by kernel_rfl)) i2 fun m hm=>hw m (List.mem_append_right _ (List.mem_append_right _ hm));exact⟨m0,m1,m2,a1,b1,c1,fun x hx=>size_str (a2 x hx),fun x hx=>size_lk (b2 x hx),fun x hx=>size_lk (c2 x hx),z1,z2⟩
theorem open_intsV {r:Go.Reach} {b0:Nat} {v:Value} {d:DataW H} {p:List MemPlace} (hv:Value.okWide Tryz.prog w r b0 26 v) (h:DataW.Trod enc Tryz.prog w base (fun _=>true) held 26 v d p) :
 ∃(A:Option Addr) (cap:Nat) (l:List Int),v=.slice A l.length cap∧isSl intD l d∧InInt w A l∧∀y,y∈l→in64 y:=by
 obtain⟨a,len,c,rfl⟩:=okWide_slice Tryz.underlying26 hv;obtain⟨n,hn⟩:=h;obtain⟨A,cap,l,e,h1,h2,h3⟩:=open_ints' hn;refine⟨A,cap,l,?_,h1,h2,h3⟩
 simpa [Value.cells] using e
end
end Ci
end
section
open Go.RowKit Go.Shelf
namespace Sh
open Nt Ci
theorem agg_q (q:Rat):∃g n d,qv q=.agg #[.bool g,.string n,.string d]:=⟨_,_,_,rfl⟩
theorem ofQ_one' (n:Int):ofQ n 1=(n:Rat):=by
 unfold ofQ;rw[show decide ((1:Int)<0)=false from rfl]
 have e:sg (!(decide (n<0)==false)) n.natAbs=n:=by
  have:=sg_self n
  cases h:decide (n<0) with
  | true=>rw[h]at this;exact this
  | false=>rw[h]at this;exact this
 rw[e];exact Rat.mkRat_one n
theorem shnum_any (k:Int) (hk:-10≤k∧k≤10) (w:World) (hE:Env w) :
 Calls Tryz.prog 46 #[.int .i64 k] w fun e w'=>e=.returned (qv (k:Rat))∧Below w.heap.size w w':=by
 obtain⟨g,n,d,hq⟩:=agg_q (k:Rat);have hB2:Hid (Below w.heap.size w (w.alloc (.cells #[.bool false,.string ⟨#[]⟩,.string ⟨#[]⟩] 37))):=((Below.refl _ w).alloc (Nat.le_refl _) _);have hr2:Hid (Bk (w.alloc (.cells #[.bool false,.string ⟨#[]⟩,.string ⟨#[]⟩] 37)) (w.heap.size) 37 [.bool false,.string ⟨#[]⟩,.string ⟨#[]⟩]):=by have h:=Bk.new w 37 [.bool false,.string ⟨#[]⟩,.string ⟨#[]⟩]; exact h
 have ko:Hid (Calls Tryz.prog 62 #[.int .i64 k,.int .i64 1] (w.alloc (.cells #[.bool false,.string ⟨#[]⟩,.string ⟨#[]⟩] 37)) fun e w'=>e=.returned (.tuple #[.agg #[.bool g,.string n,.string d],.int .i64 0])∧Below ((w.alloc (.cells #[.bool false,.string ⟨#[]⟩,.string ⟨#[]⟩] 37))).heap.size (w.alloc (.cells #[.bool false,.string ⟨#[]⟩,.string ⟨#[]⟩] 37)) w'):=by have h:=RatOf_any k 1 (by omega) (by omega) (by omega) (by omega) (by omega) (w.alloc (.cells #[.bool false,.string ⟨#[]⟩,.string ⟨#[]⟩] 37)) (hE.below hB2.out);rw[ofQ_one',hq]at h;exact h
 have u1:=hk.1;have u2:=hk.2;replace hE:=Lib.hid hE;go_enter Tryz.func46,Tryz.ntmps46
 go_wp2_with fail
 refine ko.out.mono ?_;rintro e w3 ⟨rfl,hb⟩;have hB3:=Lib.hid (hB2.out.trans (hb.mono hB2.out.size));have hr3:=Lib.hid (hr2.out.below hb);clear hb hB2 hr2 ko;have hB4:Hid (Below w.heap.size w (w3.alloc (.cells #[.bool g,.string n,.string d] 37))):=hB3.out.alloc hB3.out.size _;have hr4:=Lib.hid (hr3.out.alloc (.cells #[.bool g,.string n,.string d] 37));clear hB3 hr3;have hv4:Hid (Bk (w3.alloc (.cells #[.bool g,.string n,.string d] 37)) w3.heap.size 37 [.bool g,.string n,.string d]):=Bk.new _ _ _;have r0:=hr4.out.cell (j:=0) rfl;have r1:=hr4.out.cell (j:=1) rfl;have r2:=hr4.out.cell (j:=2) rfl;have r9:=hr4.out.lt;have rf0:=hr4.out.frozen 0;have rf1:=hr4.out.frozen 1;have rf2:=hr4.out.frozen 2;have hBz:Hid (Below w.heap.size w ((((w3.alloc (.cells #[.bool g,.string n,.string d] 37)).setCell ⟨w.heap.size,0,none⟩ (.bool g)).setCell ⟨w.heap.size,1,none⟩ (.string n)).setCell ⟨w.heap.size,2,none⟩ (.string d))):=(((hB4.out.setCell (p:=⟨w.heap.size,0,none⟩) (Nat.le_refl _) _).setCell (p:=⟨w.heap.size,1,none⟩) (Nat.le_refl _) _).setCell (p:=⟨w.heap.size,2,none⟩) (Nat.le_refl _) _);have hRz:Hid (Bk ((((w3.alloc (.cells #[.bool g,.string n,.string d] 37)).setCell ⟨w.heap.size,0,none⟩ (.bool g)).setCell ⟨w.heap.size,1,none⟩ (.string n)).setCell ⟨w.heap.size,2,none⟩ (.string d)) (w.heap.size) 37 [.bool g,.string n,.string d]):=(Bk.set (Bk.set (Bk.set hr4.out 0 (.bool g)) 1 (.string n)) 2 (.string d));go_wp2
 (try simp only[Exit.inBlock,Exit.then])
 have s0:=hRz.out.cell (j:=0) rfl;have s1:=hRz.out.cell (j:=1) rfl;have s2:=hRz.out.cell (j:=2) rfl;have s9:=hRz.out.lt;refine bodyPost_ret (v:=.agg #[.bool g,.string n,.string d]) (by simp[results,Tryz.results46,go_sem,s0,s1,s2]) rfl ⟨by rw[hq],hBz.out⟩
theorem shplus_any (s x y:Rat) (hs:ShortQ s) (hx:ShortQ x) (hy:ShortQ y) (hxy:ShortQ (x*y)) (w:World) (hE:Env w) :
 Calls Tryz.prog 97 #[qv s,qv x,qv y] w fun e w'=>e=.returned (qv (s+x*y))∧Below w.heap.size w w':=by
 obtain⟨g1,n1,d1,q1⟩:=agg_q s;obtain⟨g2,n2,d2,q2⟩:=agg_q x;obtain⟨g3,n3,d3,q3⟩:=agg_q y;obtain⟨g4,n4,d4,q4⟩:=agg_q (x*y);obtain⟨g5,n5,d5,q5⟩:=agg_q (s+x*y);have km:Hid (∀W,Env W→Calls Tryz.prog 21 #[.agg #[.bool g2,.string n2,.string d2],.agg #[.bool g3,.string n3,.string d3]] W fun e w'=>e=.returned (.tuple #[.agg #[.bool g4,.string n4,.string d4],.int .i64 0])∧Below W.heap.size W w'):=fun W hW=>by have h:=Mul_short x y hx hy W hW;rw[q2,q3,q4]at h;exact h
 have ka:Hid (∀W,Env W→Calls Tryz.prog 27 #[.agg #[.bool g1,.string n1,.string d1],.agg #[.bool g4,.string n4,.string d4]] W fun e w'=>e=.returned (.tuple #[.agg #[.bool g5,.string n5,.string d5],.int .i64 0])∧Below W.heap.size W w'):=fun W hW=>by have h:=Add_short s (x*y) hs hxy W hW;rw[q1,q4,q5]at h;exact h
 rw[q1,q2,q3,q5];clear q1 q2 q3 q4 q5 hs hx hy hxy;have hB2:Hid (Below w.heap.size w ((((w.alloc (.cells #[.bool g1,.string n1,.string d1] 37)).alloc (.cells #[.bool g2,.string n2,.string d2] 37)).alloc (.cells #[.bool g3,.string n3,.string d3] 37)).alloc (.cells #[.bool false,.string ⟨#[]⟩,.string ⟨#[]⟩] 37))):=(((((Below.refl _ w).alloc (Nat.le_refl _) _).alloc (by simp) _).alloc (by simp;omega) _).alloc (by simp;omega) _);have ha2:Hid (Bk ((((w.alloc (.cells #[.bool g1,.string n1,.string d1] 37)).alloc (.cells #[.bool g2,.string n2,.string d2] 37)).alloc (.cells #[.bool g3,.string n3,.string d3] 37)).alloc (.cells #[.bool false,.string ⟨#[]⟩,.string ⟨#[]⟩] 37)) (w.heap.size) 37 [.bool g1,.string n1,.string d1]):=by have h:=Bk.new w 37 [.bool g1,.string n1,.string d1];have h:=h.alloc (.cells #[.bool g2,.string n2,.string d2] 37);have h:=h.alloc (.cells #[.bool g3,.string n3,.string d3] 37);have h:=h.alloc (.cells #[.bool false,.string ⟨#[]⟩,.string ⟨#[]⟩] 37); exact h
 have hb2:Hid (Bk ((((w.alloc (.cells #[.bool g1,.string n1,.string d1] 37)).alloc (.cells #[.bool g2,.string n2,.string d2] 37)).alloc (.cells #[.bool g3,.string n3,.string d3] 37)).alloc (.cells #[.bool false,.string ⟨#[]⟩,.string ⟨#[]⟩] 37)) (w.heap.size+1) 37 [.bool g2,.string n2,.string d2]):=by have h:=Bk.new (w.alloc (.cells #[.bool g1,.string n1,.string d1] 37)) 37 [.bool g2,.string n2,.string d2];have h:=h.alloc (.cells #[.bool g3,.string n3,.string d3] 37);have h:=h.alloc (.cells #[.bool false,.string ⟨#[]⟩,.string ⟨#[]⟩] 37);simp only[World.size_alloc]at h;exact h
 have hc2:Hid (Bk ((((w.alloc (.cells #[.bool g1,.string n1,.string d1] 37)).alloc (.cells #[.bool g2,.string n2,.string d2] 37)).alloc (.cells #[.bool g3,.string n3,.string d3] 37)).alloc (.cells #[.bool false,.string ⟨#[]⟩,.string ⟨#[]⟩] 37)) (w.heap.size+1+1) 37 [.bool g3,.string n3,.string d3]):=by have h:=Bk.new ((w.alloc (.cells #[.bool g1,.string n1,.string d1] 37)).alloc (.cells #[.bool g2,.string n2,.string d2] 37)) 37 [.bool g3,.string n3,.string d3];have h:=h.alloc (.cells #[.bool false,.string ⟨#[]⟩,.string ⟨#[]⟩] 37);simp only[World.size_alloc]at h;exact h
 have hr2:Hid (Bk ((((w.alloc (.cells #[.bool g1,.string n1,.string d1] 37)).alloc (.cells #[.bool g2,.string n2,.string d2] 37)).alloc (.cells #[.bool g3,.string n3,.string d3] 37)).alloc (.cells #[.bool false,.string ⟨#[]⟩,.string ⟨#[]⟩] 37)) (w.heap.size+1+1+1) 37 [.bool false,.string ⟨#[]⟩,.string ⟨#[]⟩]):=by have h:=Bk.new (((w.alloc (.cells #[.bool g1,.string n1,.string d1] 37)).alloc (.cells #[.bool g2,.string n2,.string d2] 37)).alloc (.cells #[.bool g3,.string n3,.string d3] 37)) 37 [.bool false,.string ⟨#[]⟩,.string ⟨#[]⟩];simp only[World.size_alloc]at h;exact h
 replace hE:=Lib.hid hE;have k1:=Lib.hid (km.out ((((w.alloc (.cells #[.bool g1,.string n1,.string d1] 37)).alloc (.cells #[.bool g2,.string n2,.string d2] 37)).alloc (.cells #[.bool g3,.string n3,.string d3] 37)).alloc (.cells #[.bool false,.string ⟨#[]⟩,.string ⟨#[]⟩] 37)) (hE.out.below hB2.out));have y0:=hb2.out.cell (j:=0) rfl;have y1:=hb2.out.cell (j:=1) rfl;have y2:=hb2.out.cell (j:=2) rfl;have y9:=hb2.out.lt;have z0:=hc2.out.cell (j:=0) rfl;have z1:=hc2.out.cell (j:=1) rfl;have z2:=hc2.out.cell (j:=2) rfl;have z9:=hc2.out.lt;go_enter Tryz.func97,Tryz.ntmps97
 go_wp2_with fail
 refine k1.out.mono ?_;rintro e w3 ⟨rfl,hb⟩;have hB3:=Lib.hid (hB2.out.trans (hb.mono hB2.out.size));have ha3:=Lib.hid (ha2.out.below hb);have hb3:=Lib.hid (hb2.out.below hb);have hc3:=Lib.hid (hc2.out.below hb);have hr3:=Lib.hid (hr2.out.below hb);clear hb hB2 ha2 hb2 hc2 hr2 k1 y0 y1 y2 y9 z0 z1 z2 z9;have hB4:Hid (Below w.heap.size w (w3.alloc (.cells #[.bool g4,.string n4,.string d4] 37))):=hB3.out.alloc hB3.out.size _;have ha4:=Lib.hid (ha3.out.alloc (.cells #[.bool g4,.string n4,.string d4] 37));have hb4:=Lib.hid (hb3.out.alloc (.cells #[.bool g4,.string n4,.string d4] 37));have hc4:=Lib.hid (hc3.out.alloc (.cells #[.bool g4,.string n4,.string d4] 37));have hr4:=Lib.hid (hr3.out.alloc (.cells #[.bool g4,.string n4,.string d4] 37));clear hB3 ha3 hb3 hc3 hr3;have hp4:Hid (Bk (w3.alloc (.cells #[.bool g4,.string n4,.string d4] 37)) w3.heap.size 37 [.bool g4,.string n4,.string d4]):=Bk.new _ _ _;have k2:=Lib.hid (ka.out (w3.alloc (.cells #[.bool g4,.string n4,.string d4] 37)) (hE.out.below hB4.out));have x0:=ha4.out.cell (j:=0) rfl;have x1:=ha4.out.cell (j:=1) rfl;have x2:=ha4.out.cell (j:=2) rfl;have x9:=ha4.out.lt
 go_wp2_with fail
 refine k2.out.mono ?_;rintro e w5 ⟨rfl,hb⟩;have hB5:=Lib.hid (hB4.out.trans (hb.mono hB4.out.size));have ha5:=Lib.hid (ha4.out.below hb);have hb5:=Lib.hid (hb4.out.below hb);have hc5:=Lib.hid (hc4.out.below hb);have hr5:=Lib.hid (hr4.out.below hb);have hp5:=Lib.hid (hp4.out.below hb);clear hb hB4 ha4 hb4 hc4 hr4 hp4 k2 x0 x1 x2 x9;have x0:=ha5.out.cell (j:=0) rfl;have x1:=ha5.out.cell (j:=1) rfl;have x2:=ha5.out.cell (j:=2) rfl;have x9:=ha5.out.lt;have xf0:=ha5.out.frozen 0;have xf1:=ha5.out.frozen 1;have xf2:=ha5.out.frozen 2;have hB6:Hid (Below w.heap.size w (((w5.setCell ⟨w.heap.size,0,none⟩ (.bool g5)).setCell ⟨w.heap.size,1,none⟩ (.string n5)).setCell ⟨w.heap.size,2,none⟩ (.string d5))):=(((hB5.out.setCell (p:=⟨w.heap.size,0,none⟩) (Nat.le_refl _) _).setCell (p:=⟨w.heap.size,1,none⟩) (Nat.le_refl _) _).setCell (p:=⟨w.heap.size,2,none⟩) (Nat.le_refl _) _);have ha6:=Lib.hid ((Bk.set (Bk.set (Bk.set ha5.out 0 (.bool g5)) 1 (.string n5)) 2 (.string d5)));have hr6:=Lib.hid ((((hr5.out.far (p:=⟨w.heap.size,0,none⟩) (by first | (simp only[];omega) | omega) (.bool g5)).far (p:=⟨w.heap.size,1,none⟩) (by first | (simp only[];omega) | omega) (.string n5)).far (p:=⟨w.heap.size,2,none⟩) (by first | (simp only[];omega) | omega) (.string d5)));clear hB5 ha5 hr5;have r0:=hr6.out.cell (j:=0) rfl;have r1:=hr6.out.cell (j:=1) rfl;have r2:=hr6.out.cell (j:=2) rfl;have r9:=hr6.out.lt;have rf0:=hr6.out.frozen 0;have rf1:=hr6.out.frozen 1;have rf2:=hr6.out.frozen 2;have hBz:Hid (Below w.heap.size w ((((((w5.setCell ⟨w.heap.size,0,none⟩ (.bool g5)).setCell ⟨w.heap.size,1,none⟩ (.string n5)).setCell ⟨w.heap.size,2,none⟩ (.string d5)).setCell ⟨w.heap.size+1+1+1,0,none⟩ (.bool g5)).setCell ⟨w.heap.size+1+1+1,1,none⟩ (.string n5)).setCell ⟨w.heap.size+1+1+1,2,none⟩ (.string d5))):=(((hB6.out.setCell (p:=⟨w.heap.size+1+1+1,0,none⟩) (by simp only[];omega) _).setCell (p:=⟨w.heap.size+1+1+1,1,none⟩) (by simp only[];omega) _).setCell (p:=⟨w.heap.size+1+1+1,2,none⟩) (by simp only[];omega) _);have hRz:Hid (Bk ((((((w5.setCell ⟨w.heap.size,0,none⟩ (.bool g5)).setCell ⟨w.heap.size,1,none⟩ (.string n5)).setCell ⟨w.heap.size,2,none⟩ (.string d5)).setCell ⟨w.heap.size+1+1+1,0,none⟩ (.bool g5)).setCell ⟨w.heap.size+1+1+1,1,none⟩ (.string n5)).setCell ⟨w.heap.size+1+1+1,2,none⟩ (.string d5)) (w.heap.size+1+1+1) 37 [.bool g5,.string n5,.string d5]):=(Bk.set (Bk.set (Bk.set hr6.out 0 (.bool g5)) 1 (.string n5)) 2 (.string d5));go_wp2
 (try simp only[Exit.inBlock,Exit.then])
 have s0:=hRz.out.cell (j:=0) rfl;have s1:=hRz.out.cell (j:=1) rfl;have s2:=hRz.out.cell (j:=2) rfl;have s9:=hRz.out.lt;refine bodyPost_ret (v:=.agg #[.bool g5,.string n5,.string d5]) (by simp[results,Tryz.results97,go_sem,s0,s1,s2]) rfl ⟨rfl,hBz.out⟩
end Sh
end
section
open Go.RowKit Go.Shelf
namespace Nt
def InInt (z:Int):Prop:=-9223372036854775808≤z∧z≤9223372036854775807
end Nt
end
section
open Go.RowKit
namespace Nt
def Dg (k:Nat) (q:Rat):Prop:=q.num.natAbs<10^k∧q.den<10^k
theorem Dg.mono {k m:Nat} {q:Rat} (h:Dg k q) (hk:k≤m):Dg m q:=by
 have:10^k≤10^m:=Nat.pow_le_pow_right (by omega) hk;exact⟨Nat.lt_of_lt_of_le h.1 this,Nat.lt_of_lt_of_le h.2 this⟩
theorem Dg.short {k:Nat} {q:Rat} (h:Dg k q) (hk:k≤140):ShortQ q:=by
 have:=h.mono (m:=mx1) (by rw[mx1_eq];exact hk);exact this
theorem mkRat_le (n:Int) (d:Nat) (hd:d≠0):(mkRat n d).num.natAbs≤n.natAbs∧(mkRat n d).den≤d:=by
 have e:n=sg (decide (n<0)) n.natAbs:=(sg_self n).symm;rw[e,mk_num _ _ _ hd,mk_den _ _ _ hd,sg_natAbs,sg_natAbs];exact⟨Nat.div_le_self _ _,Nat.div_le_self _ _⟩
theorem Dg.add {k m:Nat} {p q:Rat} (hp:Dg k p) (hq:Dg m q):Dg (k+m+1) (p+q):=by
 have hd:p.den*q.den≠0:=Nat.mul_ne_zero p.den_nz q.den_nz;have h:=mkRat_le (p.num*q.den+q.num*p.den) (p.den*q.den) hd;rw[add_mk]at h;have e:10^(k+m+1)=10^k*10^m*10:=by rw[Nat.pow_succ,Nat.pow_add]
 have h1:p.num.natAbs*q.den<10^k*10^m:=Nat.mul_lt_mul'' hp.1 hq.2;have h2:q.num.natAbs*p.den<10^m*10^k:=Nat.mul_lt_mul'' hq.1 hp.2;have h3:p.den*q.den<10^k*10^m:=Nat.mul_lt_mul'' hp.2 hq.2;rw[Nat.mul_comm (10^m)]at h2;have h4:=Int.natAbs_add_le (p.num*q.den) (q.num*p.den);rw[Int.natAbs_mul,Int.natAbs_mul,Int.natAbs_natCast,Int.natAbs_natCast]at h4;unfold Dg;rw[e];generalize 10^k*10^m=X at *;exact⟨by omega,by omega⟩
theorem Dg.neg {k:Nat} {q:Rat} (h:Dg k q):Dg k (-q):=⟨by show (-q.num).natAbs<10^k;rw[Int.natAbs_neg];exact h.1,h.2⟩
theorem Dg.sub {k m:Nat} {p q:Rat} (hp:Dg k p) (hq:Dg m q):Dg (k+m+1) (p-q):=by rw[Rat.sub_eq_add_neg];exact hp.add hq.neg
theorem Dg.mul {k m:Nat} {p q:Rat} (hp:Dg k p) (hq:Dg m q):Dg (k+m) (p*q):=by
 have hd:p.den*q.den≠0:=Nat.mul_ne_zero p.den_nz q.den_nz;have h:=mkRat_le (p.num*q.num) (p.den*q.den) hd;rw[←Rat.mul_def']at h;have h1:p.num.natAbs*q.num.natAbs<10^k*10^m:=Nat.mul_lt_mul'' hp.1 hq.1;have h3:p.den*q.den<10^k*10^m:=Nat.mul_lt_mul'' hp.2 hq.2;rw[Int.natAbs_mul]at h;unfold Dg;rw[Nat.pow_add];exact⟨by omega,by omega⟩
theorem Dg.div {k m:Nat} {p q:Rat} (hp:Dg k p) (hq:Dg m q) (h0:q≠0):Dg (k+m) (p/q):=by
 have hn:=num_ne_zero h0;have hd:p.den*q.num.natAbs≠0:=Nat.mul_ne_zero p.den_nz (by omega);have h:=mkRat_le (sg (decide (p.num<0) != decide (q.num<0)) (p.num.natAbs*q.den)) (p.den*q.num.natAbs) hd;rw[div_mk,sg_natAbs]at h;have h1:p.num.natAbs*q.den<10^k*10^m:=Nat.mul_lt_mul'' hp.1 hq.2;have h3:p.den*q.num.natAbs<10^k*10^m:=Nat.mul_lt_mul'' hp.2 hq.1;unfold Dg;rw[Nat.pow_add];exact⟨by omega,by omega⟩
theorem dg_of_size {q:Rat} {k:Nat} (hk:0<k) (h1:(T (some q.num.natAbs)).size≤k) (h2:(T (some q.den)).size≤k):Dg k q:=by
 have e:∀n,(T (some n)).size=(Lib.decDigits n).length:=fun n=>by rw[Lib.size_eq];rfl
 rw[e]at h1 h2;exact⟨(decDigits_len_iff _ k hk).1 h1,(decDigits_len_iff _ k hk).1 h2⟩
end Nt
end
section
open Go.RowKit Go.Shelf
namespace Nt
abbrev uniW (w:World) (g1:Bool) (n1 d1:ByteArray):World:=w.alloc (.cells #[.bool g1,.string n1,.string d1] 37)
theorem uniW_below (w:World) (g1:Bool) (n1 d1:ByteArray):Below w.heap.size w (uniW w g1 n1 d1):=(Below.refl _ w).alloc (Nat.le_refl _) _
end Nt
end
end Go.Proofs.YtioidbebjgeahaaGreatDoor

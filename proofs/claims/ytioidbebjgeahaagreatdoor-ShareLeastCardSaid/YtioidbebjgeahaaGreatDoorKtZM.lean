/- Texts that the proof needs: RRef1. -/
import Derived.Test.YtioidbebjgeahaaGreatDoorKtA
import Derived.Test.YtioidbebjgeahaaGreatDoorKtB
import Derived.Test.YtioidbebjgeahaaGreatDoorKtC
import Derived.Test.YtioidbebjgeahaaGreatDoorKtZK
import Derived.Test.YtioidbebjgeahaaGreatDoorKtZL
set_option maxHeartbeats 1000000
set_option maxRecDepth 100000
namespace Go.Proofs.YtioidbebjgeahaaGreatDoor
open Go.RowKit Go.Shelf
namespace Nt
theorem rgcd (a b:Nat) (w:World) (ha:a<Lim) (hb:b<Lim):Calls Tryz.prog 91 #[.string (T (some a)),.string (T (some b))] w fun e w'=>e=.returned (.tuple #[.string (T (some (Nat.gcd a b))),.int .i64 0])∧Below w.heap.size w w':=RefGcd_num a b w ha hb
theorem ris (s:ByteArray) (b:Bool) (h:isN s=b) (w:World) (hs:s.size≤140737488355328):Calls Tryz.prog 128 #[.string s] w fun e w'=>e=.returned (.bool b)∧w=w':=by
 have:=RefIs_any s w hs
 rwa [h]at this
theorem RRValid_bad1 (g:Bool) (n d:ByteArray) (w:World) (hn:n.size≤140737488355328) (h:isN n=false) :
 Calls Tryz.prog 70 #[.agg #[.bool g,.string n,.string d]] w fun e w'=>e=.returned (.bool false)∧Below w.heap.size w w':=by
 replace h:=Lib.hid h;go_enter Tryz.func70,Tryz.ntmps70
 go_wp2_with fail
 refine(ris n false h.out _ hn).mono ?_;rintro e w1 ⟨rfl,rfl⟩;go_wp2;go_ret;exact⟨rfl,uniW_below w _ _ _⟩
theorem RRValid_bad2 (g:Bool) (n d:ByteArray) (w:World) (hn:n.size≤140737488355328) (hd:d.size≤140737488355328) (h:isN n=true) (h2:isN d=false) :
 Calls Tryz.prog 70 #[.agg #[.bool g,.string n,.string d]] w fun e w'=>e=.returned (.bool false)∧Below w.heap.size w w':=by
 replace h:=Lib.hid h;replace h2:=Lib.hid h2;go_enter Tryz.func70,Tryz.ntmps70
 go_wp2_with fail
 refine(ris n true h.out _ hn).mono ?_;rintro e w1 ⟨rfl,rfl⟩
 go_wp2_with fail
 refine(ris d false h2.out _ hd).mono ?_;rintro e w1 ⟨rfl,rfl⟩;go_wp2;go_ret;exact⟨rfl,uniW_below w _ _ _⟩
theorem RRValid_zden (g:Bool) (a:Nat) (w:World) (ha:a<Lim) :
 Calls Tryz.prog 70 #[.agg #[.bool g,.string (T (some a)),.string (T (some 0))]] w fun e w'=>e=.returned (.bool false)∧Below w.heap.size w w':=by
 have hb:0<Lim:=by omega
 have ia:=Lib.hid (isN_T (ok_some ha));have za:=Lib.hid (size_T (ok_some ha));have ib:=Lib.hid (isN_T (ok_some hb));have zb:=Lib.hid (size_T (ok_some hb));have z:=T_is_zero 0;rw[decide_eq_true rfl]at z;go_enter Tryz.func70,Tryz.ntmps70
 go_wp2_with fail
 refine(ris _ true ia.out _ za.out).mono ?_;rintro e w1 ⟨rfl,rfl⟩
 go_wp2_with fail
 refine(ris _ true ib.out _ zb.out).mono ?_;rintro e w1 ⟨rfl,rfl⟩;go_wp2;go_ret;exact⟨rfl,uniW_below w _ _ _⟩
theorem RRValid_neg0 (b:Nat) (w:World) (hb:b<Lim) (hb0:b≠0) :
 Calls Tryz.prog 70 #[.agg #[.bool true,.string (T (some 0)),.string (T (some b))]] w fun e w'=>e=.returned (.bool false)∧Below w.heap.size w w':=by
 have ha:0<Lim:=by omega
 have ia:=Lib.hid (isN_T (ok_some ha));have za:=Lib.hid (size_T (ok_some ha));have ib:=Lib.hid (isN_T (ok_some hb));have zb:=Lib.hid (size_T (ok_some hb));have z:=T_is_zero 0;rw[decide_eq_true rfl]at z;have z2:=T_is_zero b;rw[decide_eq_false hb0]at z2;replace hb0:=Lib.hid hb0;go_enter Tryz.func70,Tryz.ntmps70
 go_wp2_with fail
 refine(ris _ true ia.out _ za.out).mono ?_;rintro e w1 ⟨rfl,rfl⟩
 go_wp2_with fail
 refine(ris _ true ib.out _ zb.out).mono ?_;rintro e w1 ⟨rfl,rfl⟩;go_wp2;go_ret;exact⟨rfl,uniW_below w _ _ _⟩
theorem RRValid_gcd_f (a b:Nat) (w:World) (ha:a<Lim) (hb:b<Lim) (hb0:b≠0) :
 Calls Tryz.prog 70 #[.agg #[.bool false,.string (T (some a)),.string (T (some b))]] w fun e w'=>e=.returned (.bool (decide (Nat.gcd a b=1)))∧Below w.heap.size w w':=by
 have ia:=Lib.hid (isN_T (ok_some ha));have za:=Lib.hid (size_T (ok_some ha));have ib:=Lib.hid (isN_T (ok_some hb));have zb:=Lib.hid (size_T (ok_some hb));have z2:=T_is_zero b;rw[decide_eq_false hb0]at z2;have z3:=T_is_one (Nat.gcd a b);replace hb0:=Lib.hid hb0;go_enter Tryz.func70,Tryz.ntmps70
 go_wp2_with fail
 refine(ris _ true ia.out _ za.out).mono ?_;rintro e w1 ⟨rfl,rfl⟩
 go_wp2_with fail
 refine(ris _ true ib.out _ zb.out).mono ?_;rintro e w1 ⟨rfl,rfl⟩
 go_wp2_with fail
 refine(rgcd a b _ ha hb).mono ?_;rintro e w1 ⟨rfl,hb1⟩;have hB1:=Lib.hid ((uniW_below w false (T (some a)) (T (some b))).trans (hb1.mono (by simp)));clear hb1;go_wp2;go_ret;exact⟨rfl,hB1.out⟩
theorem RRValid_gcd_t (a b:Nat) (w:World) (ha:a<Lim) (hb:b<Lim) (hb0:b≠0) (ha0:a≠0) :
 Calls Tryz.prog 70 #[.agg #[.bool true,.string (T (some a)),.string (T (some b))]] w fun e w'=>e=.returned (.bool (decide (Nat.gcd a b=1)))∧Below w.heap.size w w':=by
 have ia:=Lib.hid (isN_T (ok_some ha));have za:=Lib.hid (size_T (ok_some ha));have ib:=Lib.hid (isN_T (ok_some hb));have zb:=Lib.hid (size_T (ok_some hb));have z2:=T_is_zero b;rw[decide_eq_false hb0]at z2;have z3:=T_is_one (Nat.gcd a b);replace hb0:=Lib.hid hb0;have z:=T_is_zero a;rw[decide_eq_false ha0]at z;replace ha0:=Lib.hid ha0;go_enter Tryz.func70,Tryz.ntmps70
 go_wp2_with fail
 refine(ris _ true ia.out _ za.out).mono ?_;rintro e w1 ⟨rfl,rfl⟩
 go_wp2_with fail
 refine(ris _ true ib.out _ zb.out).mono ?_;rintro e w1 ⟨rfl,rfl⟩
 go_wp2_with fail
 refine(rgcd a b _ ha hb).mono ?_;rintro e w1 ⟨rfl,hb1⟩;have hB1:=Lib.hid ((uniW_below w true (T (some a)) (T (some b))).trans (hb1.mono (by simp)));clear hb1;go_wp2;go_ret;exact⟨rfl,hB1.out⟩
theorem RRValid_any (g:Bool) (n d:ByteArray) (w:World) (hn:n.size≤140737488355328) (hd:d.size≤140737488355328) :
 Calls Tryz.prog 70 #[.agg #[.bool g,.string n,.string d]] w fun e w'=>e=.returned (.bool (validB g n d))∧Below w.heap.size w w':=by
 cases h1:isN n with
 | false =>
   have e:validB g n d=false:=by unfold validB;rw[h1];rfl
   rw[e];exact RRValid_bad1 g n d w hn h1
 | true =>
   cases h2:isN d with
   | false =>
     have e:validB g n d=false:=by unfold validB;rw[h1,h2];rfl
     rw[e];exact RRValid_bad2 g n d w hn hd h1 h2
   | true =>
     obtain⟨a,ha,rfl⟩:=num_of_isN h1;obtain⟨b,hb,rfl⟩:=num_of_isN h2;rw[valid_num g a b ha hb]
     by_cases hb0:b=0
     · subst hb0;simp only[decide_true,Bool.not_true,Bool.false_and];exact RRValid_zden g a w ha
     · rw [decide_eq_false hb0,Bool.not_false,Bool.true_and]
       by_cases ha0:a=0
       · rw [if_pos ha0];subst ha0
         cases g with
         | true=>exact RRValid_neg0 b w hb hb0
         | false =>
           have e:(!false&&decide (b=1))=decide (Nat.gcd 0 b=1):=by
            rw[Bool.not_false,Bool.true_and];exact decide_eq_decide.2 (by rw[Nat.gcd_zero_left])
           rw[e];exact RRValid_gcd_f 0 b w ha hb hb0
       · rw[if_neg ha0]
         cases g with
         | true=>exact RRValid_gcd_t a b w ha hb hb0 ha0
         | false=>exact RRValid_gcd_f a b w ha hb hb0
end Nt
end Go.Proofs.YtioidbebjgeahaaGreatDoor

/- Texts that the proof needs: RefA. -/
import Derived.WalkLawsBesides
import Derived.WalkSpells
import Derived.Deep.OwnRows
import Derived.StillTailTactics
import Derived.RegionTactic
import Derived.Deep.LoopGhost
import Derived.Test.YtioidbebjgeahaaGreatDoorKtA
import Derived.Test.YtioidbebjgeahaaGreatDoorKtB
import Derived.Test.YtioidbebjgeahaaGreatDoorKtZK
set_option maxHeartbeats 4000000
set_option maxRecDepth 100000
namespace Go.Proofs.YtioidbebjgeahaaGreatDoor
section
open Go.RowKit
namespace Nt
def dgt (l:List UInt8) (i:Nat):Nat:=if h:i<l.length then (l[l.length-1-i]'(by omega)).toNat-48 else 0
theorem dgt_snoc_zero (l:List UInt8) (c:UInt8):dgt (l++[c]) 0=c.toNat-48:=by
 unfold dgt;rw[dif_pos (by simp)];simp
theorem dgt_snoc_succ (l:List UInt8) (c:UInt8) (i:Nat):dgt (l++[c]) (i+1)=dgt l i:=by
 unfold dgt
 by_cases h:i<l.length
 · rw[dif_pos (by simp;omega),dif_pos h];have e:(l++[c]).length-1-(i+1)=l.length-1-i:=by simp;omega
   simp only[e];rw[List.getElem_append_left (by omega)]
 · rw[dif_neg (by simp;omega),dif_neg h]
theorem dgt_dec (n i:Nat):dgt (Lib.decDigits n) i=n/10^i%10:=by
 induction i generalizing n with
 | zero =>
   rw[Lib.decDigits]
   split
   · rw[show ([UInt8.ofNat (48+n)]:List UInt8)=[]++[UInt8.ofNat (48+n)] from rfl,dgt_snoc_zero,toNat_dig _ (by omega)];simp;omega
   · rw[dgt_snoc_zero,toNat_dig _ (Nat.mod_lt _ (by omega))];simp
 | succ i ih =>
   rw[Lib.decDigits]
   split
   · rename_i h;rw[show ([UInt8.ofNat (48+n)]:List UInt8)=[]++[UInt8.ofNat (48+n)] from rfl,dgt_snoc_succ];have h1:dgt [] i=0:=rfl;have h2:n/10^(i+1)=0:=Nat.div_eq_of_lt (Nat.lt_of_lt_of_le h (by rw[Nat.pow_succ];have:0<10^i:=Nat.pow_pos (by omega);omega));rw[h1,h2]
   · rw[dgt_snoc_succ,ih,Nat.pow_succ,Nat.mul_comm,Nat.div_div_eq_div_mul]
theorem dgt_lt (n i:Nat):dgt (Lib.decDigits n) i<10:=by rw[dgt_dec];exact Nat.mod_lt _ (by omega)
def dv:List Nat→Nat
 | []=>0
 | x::xs=>x+10*dv xs
theorem dv_append (xs ys:List Nat):dv (xs++ys)=dv xs+10^xs.length*dv ys:=by
 induction xs with
 | nil=>simp[dv]
 | cons x xs ih =>
   simp only[List.cons_append,dv,ih,List.length_cons,Nat.pow_succ,Nat.mul_add];rw[Nat.mul_comm (10^xs.length) 10,Nat.mul_assoc];omega
theorem dv_snoc (xs:List Nat) (y:Nat):dv (xs++[y])=dv xs+10^xs.length*y:=by rw[dv_append];simp[dv]
theorem dv_set (zs:List Nat) (p y:Nat) (h:p<zs.length):dv (zs.set p y)+10^p*lim zs p=dv zs+10^p*y:=by
 induction zs generalizing p with
 | nil=>simp at h
 | cons z zs ih =>
   cases p with
   | zero=>simp[dv,lim];omega
   | succ p =>
     have:=ih p (by simpa using h);have e:lim (z::zs) (p+1)=lim zs p:=by simp[lim]
     rw[e];simp only[List.set_cons_succ,dv,Nat.pow_succ];rw[Nat.mul_comm (10^p) 10,Nat.mul_assoc,Nat.mul_assoc];omega
theorem dv_ge (zs:List Nat) (p:Nat) (h:p<zs.length):10^p*lim zs p≤dv zs:=by
 have:=dv_set zs p 0 h;omega
def dbytes (ds:List Nat):List UInt8:=(ds.map fun d=>UInt8.ofNat (48+d)).reverse
theorem dbytes_len (ds:List Nat):(dbytes ds).length=ds.length:=by simp[dbytes]
theorem dbytes_dig {ds:List Nat} (h:∀d∈ds,d<10):∀c∈dbytes ds,isDig c:=by
 intro c hc;simp only[dbytes,List.mem_reverse,List.mem_map]at hc;obtain⟨d,hd,rfl⟩:=hc;have:=h d hd;unfold isDig;rw[toNat_dig _ this];omega
theorem dval_dbytes {ds:List Nat} (h:∀d∈ds,d<10):dval (dbytes ds)=dv ds:=by
 induction ds with
 | nil=>rfl
 | cons d ds ih =>
   have e:dbytes (d::ds)=dbytes ds++[UInt8.ofNat (48+d)]:=by simp[dbytes]
   rw[e,dval_append,ih (fun x hx=>h x (by simp[hx]))];have hd:=h d (by simp);simp only[List.length_cons,List.length_nil,dval,List.foldl_cons,List.foldl_nil,toNat_dig d hd,dv];omega
theorem trimmed {l:List UInt8} {i:Nat} (hd:∀c∈l,isDig c) (hi:i<l.length) (hz:∀j,(h:j<i)→l[j]'(by omega)=48) (he:i+1=l.length∨l[i]≠48) :
 l.drop i=Lib.decDigits (dval l):=by
 have hv:dval (l.drop i)=dval l:=by
  have e:l=List.replicate i 48++l.drop i:=by
   conv=>lhs;rw[←List.take_append_drop i l]
   congr 1
   apply List.ext_getElem
   · simp;omega
   · intro j h1 h2;simp at h1;simp[hz j (by omega)]
  conv=>rhs;rw[e,dval_zeros]
 rw[←hv];refine(decDigits_dval _ _ rfl ?_ (fun c hc=>hd c (List.mem_of_mem_drop hc)) ?_).symm
 · intro h;have:=congrArg List.length h;simp at this;omega
 · rcases he with he | he
   · left;simp;omega
   · right;rw[List.head?_drop,List.getElem?_eq_getElem hi];intro e;exact he (Option.some.inj e)
theorem dec_len_lt {a b:Nat} (h:(Lib.decDigits a).length<(Lib.decDigits b).length):a<b:=by
 have h0:0<(Lib.decDigits a).length:=List.length_pos_iff.2 (decDigits_ne a);have h1:=(decDigits_len_iff a _ h0).1 (Nat.le_refl _)
 have h2:¬b<10^(Lib.decDigits a).length:=fun h'=>by
  have:=decDigits_len h' h0;omega
 omega
theorem bytes_lt:∀{l m:List UInt8},l.length=m.length→(∀c∈l,isDig c)→(∀c∈m,isDig c)→(Op.bytesLess l m=true↔dval l<dval m):=by
 intro l
 induction l with
 | nil =>
   intro m hl _ _;have:m=[]:=List.length_eq_zero_iff.1 hl.symm;subst this;simp[Op.bytesLess]
 | cons a l ih =>
   intro m hl hd he
   cases m with
   | nil=>simp at hl
   | cons b m =>
     have hl':l.length=m.length:=by simpa using hl
     have i:=ih hl' (fun c hc=>hd c (by simp[hc])) (fun c hc=>he c (by simp[hc]));have ha:=hd a (by simp);have hb:=he b (by simp);have h1:=dval_lt (l:=l) (fun c hc=>hd c (by simp[hc]));have h2:=dval_lt (l:=m) (fun c hc=>he c (by simp[hc]));rw[dval_cons,dval_cons,hl'];rw[hl']at h1;generalize 10^m.length=P at *;unfold Op.bytesLess
     rcases Nat.lt_trichotomy a.toNat b.toNat with h | h | h
     · have e:(a<b)=True:=by simp[UInt8.lt_iff_toNat_lt,h]
       have h3:(a.toNat-48+1)*P≤(b.toNat-48)*P:=Nat.mul_le_mul_right _ (by have:=ha.1;omega);rw[Nat.add_mul]at h3;simp only[e,decide_true,Bool.true_or,true_iff];omega
     · obtain rfl:a=b:=UInt8.toNat_inj.1 h;have e:(a<a)=False:=by simp
       simp only[e,decide_false,beq_self_eq_true,Bool.true_and,Bool.false_or,i];omega
     · have e:(a<b)=False:=by simp[UInt8.lt_iff_toNat_lt];omega
       have e2:(a==b)=false:=by rw[beq_eq_false_iff_ne];intro h';subst h';omega
       have h3:(b.toNat-48+1)*P≤(a.toNat-48)*P:=Nat.mul_le_mul_right _ (by have:=hb.1;omega);rw[Nat.add_mul]at h3;simp only[e,e2,decide_false,Bool.false_and,Bool.or_false,Bool.false_eq_true,false_iff];omega
theorem dec_less {a b:Nat} (h:(Lib.decDigits a).length=(Lib.decDigits b).length):Op.bytesLess (Lib.decDigits a) (Lib.decDigits b)=true↔a<b:=by
 have:=bytes_lt h (decDigits_dig a) (decDigits_dig b)
 rwa [dval_decDigits,dval_decDigits]at this
theorem mod_pow_succ (a i:Nat):a%10^(i+1)=a%10^i+10^i*(a/10^i%10):=by
 rw[Nat.pow_succ,Nat.mod_mul]
theorem plus_round {D a b i c:Nat} (h:D+10^i*c=a%10^i+b%10^i) :
 D+10^i*((a/10^i%10+b/10^i%10+c)%10)+10^(i+1)*((a/10^i%10+b/10^i%10+c)/10)=a%10^(i+1)+b%10^(i+1):=by
 rw[mod_pow_succ,mod_pow_succ,Nat.pow_succ];generalize a/10^i%10=x;generalize b/10^i%10=y;generalize 10^i=P at *
 have e:P*(x+y+c)=P*((x+y+c)%10)+P*10*((x+y+c)/10):=by
  rw[Nat.mul_assoc,←Nat.mul_add,Nat.mod_add_div]
 rw[Nat.mul_add,Nat.mul_add]at e;omega
theorem minus_round {D a b i c z c':Nat} (h:D+b%10^i=a%10^i+10^i*c) (e:z+b/10^i%10+c=a/10^i%10+10*c') :
 D+10^i*z+b%10^(i+1)=a%10^(i+1)+10^(i+1)*c':=by
 rw[mod_pow_succ,mod_pow_succ,Nat.pow_succ];generalize a/10^i%10=x at *;generalize b/10^i%10=y at *;generalize 10^i=P at *
 have e2:P*z+P*y+P*c=P*x+P*10*c':=by
  rw[Nat.mul_assoc,←Nat.mul_add,←Nat.mul_add,←Nat.mul_add,e]
 omega
theorem mod_all {a i:Nat} (h:(Lib.decDigits a).length≤i):a%10^i=a:=by
 have h0:0<(Lib.decDigits a).length:=List.length_pos_iff.2 (decDigits_ne a);exact Nat.mod_eq_of_lt ((decDigits_len_iff a i (by omega)).1 h)
end Nt
end
section
open Go.RowKit Go.Shelf
namespace Nt
theorem ret_str {a b:ByteArray} (h:a=b):Ending.returned (.string a)=.returned (.string b):=by rw[h]
theorem ret_i64 {a b:Int} (h:a=b):Ending.returned (.int .i64 a)=.returned (.int .i64 b):=by rw[h]
theorem ret_b {a b:Bool} (h:a=b):Ending.returned (.bool a)=.returned (.bool b):=by rw[h]
theorem bytes_ext {a b:ByteArray} (h:a.data.toList=b.data.toList):a=b:=by
 obtain⟨a⟩:=a;obtain⟨b⟩:=b;exact congrArg ByteArray.mk (Array.toList_inj.1 h)
theorem num_list (n:Nat):(num n).data.toList=Lib.decDigits n:=rfl
theorem num_size (n:Nat):(num n).size=(Lib.decDigits n).length:=by simp[num,ByteArray.size]
@[irreducible] def dch (d:Nat):UInt8:=UInt8.ofNat (48+d)
theorem dch_eq (d:Nat):dch d=UInt8.ofNat (48+d):=by unfold dch;rfl
def DgRel (N m:Nat) (t:ByteArray):Prop:=(if m=0 then [] else Lib.decDigits m)++t.data.toList=Lib.decDigits N
theorem DgRel.start (N:Nat):DgRel N (N/10) ⟨#[UInt8.ofNat (48+N%10)]⟩:=by
 unfold DgRel
 conv=>rhs;rw[Lib.decDigits]
 split
 · rename_i h;rw[dif_pos (by omega)];simp
   congr 2;omega
 · rename_i h;rw[dif_neg (by omega)]
theorem DgRel.step {N m:Nat} {t:ByteArray} (h:DgRel N m t) (hm:0<m):DgRel N (m/10) (⟨#[UInt8.ofNat (48+m%10)]⟩++t):=by
 have h2:=DgRel.start m;unfold DgRel at *;rw[if_neg (by omega),←h2]at h;rw[←h];simp
theorem DgRel.done {N:Nat} {t:ByteArray} (h:DgRel N 0 t):t=num N:=bytes_ext (by unfold DgRel at h;simpa [num] using h)
theorem DgRel.size {N m:Nat} {t:ByteArray} (h:DgRel N m t) (hN:N<18446744073709551616):t.size≤20:=by
 have h1:=decDigits_len (k:=20) (u:=N) (by omega) (by omega);have h2:=congrArg List.length h;have h3:t.size=t.data.toList.length:=Lib.size_eq _;rw[List.length_append]at h2;omega
theorem run_one_digit (d:Nat) (h:d<10) (w:World) :
 (Instr.slice 9 (.string ⟨#[48,49,50,51,52,53,54,55,56,57]⟩) (some (.int .u64 (d:Int))) (some (.int .u64 ((d:Int)+1))) none).run Tryz.prog w=.ok (.string ⟨#[dch d]⟩) w:=by
 rw[dch_eq];obtain rfl | rfl | rfl | rfl | rfl | rfl | rfl | rfl | rfl | rfl:d=0∨d=1∨d=2∨d=3∨d=4∨d=5∨d=6∨d=7∨d=8∨d=9:=by omega
 all_goals kernel_rfl
theorem digits_any (n:Nat) (w:World) (hn:n<18446744073709551616) :
 Calls Tryz.prog 197 #[.int .u64 (n:Int)] w fun e w'=>e=.returned (.string (num n))∧w=w':=by
 obtain⟨d,hd⟩:∃d,d=n%10:=⟨_,rfl⟩;have hdl:d<10:=by omega
 have hdi:(n:Int)%10=(d:Int):=by omega
 have hrun:=run_one_digit d hdl;have HD:=Lib.hid hd;clear hd;go_enter Tryz.func197,Tryz.ntmps197;go_wp2;clear hdi hrun
 go_loop [0,3] (fun m t=>∃(k:Nat) (s:ByteArray),m=.int .u64 (k:Int)∧t=.string s∧k≤n∧DgRel n k s) (fun m _=>(intOf m).toNat)
 case atStart=>exact⟨n/10,_,by first | rfl | (congr 1;omega),rfl,Nat.div_le_self _ _,by rw[dch_eq,HD.out];exact DgRel.start n⟩
 case round =>
  obtain⟨k,s,rfl,rfl,hk,hr⟩:=hrel
  by_cases h0:k=0
  · subst h0;have hs:=Lib.hid hr.done;clear hr;go_wp2;go_ret;exact⟨ret_str hs.out,rfl⟩
  · obtain⟨d,hd⟩:∃d,d=k%10:=⟨_,rfl⟩;have hdl:d<10:=by omega
    have hdi:(k:Int)%10=(d:Int):=by omega
    have hrun:=run_one_digit d hdl;have HD:=Lib.hid hd;have hz:=hr.size hn;have hpos:(0:Int)<(k:Int):=by omega
    replace hr:=Lib.hid hr;clear hd;go_wp2;go_round
    case rel=>exact⟨k/10,_,by first | rfl | (congr 1;omega),rfl,by omega,by rw[dch_eq,HD.out];exact hr.out.step (by omega)⟩
    case measure=>simp[intOf];omega
theorem Decimal_any (n:Nat) (w:World) (hn:n≤9223372036854775807) :
 Calls Tryz.prog 170 #[.int .i64 (n:Int)] w fun e w'=>e=.returned (.string (num n))∧w=w':=by
 go_enter Tryz.func170,Tryz.ntmps170
 go_wp2_with (go_at_call 197;refine(digits_any n _ (by omega)).mono ?_;rintro e w' ⟨rfl,rfl⟩)
 go_ret;exact⟨rfl,rfl⟩
def numB (l:List UInt8):Bool:=l.all (fun c=>decide (48≤c.toNat∧c.toNat≤57))&&(decide (l.length=1)||(decide (1<l.length)&&decide (l.head?≠some 48)))
theorem isN_numB (s:ByteArray):isN s=(decide (s.size≤300)&&numB s.data.toList):=by
 have hz:s.size=s.data.toList.length:=Lib.size_eq _;unfold isN isNL numB;rw[hz];generalize s.data.toList=l
 cases l with
 | nil=>rfl
 | cons a l =>
   cases l with
   | nil=>simp
   | cons b l=>simp
theorem numB_bad {l:List UInt8} {k:Nat} (h:k<l.length) (hb:¬isDig l[k]):numB l=false:=by
 unfold numB
 have:l.all (fun c=>decide (48≤c.toNat∧c.toNat≤57))=false:=by
  rw[List.all_eq_false];exact⟨l[k],List.getElem_mem h,by simpa [isDig] using hb⟩
 rw[this,Bool.false_and]
theorem numB_good {l:List UInt8} (h:∀c∈l,isDig c):numB l=(decide (l.length=1)||(decide (1<l.length)&&decide (l.head?≠some 48))):=by
 unfold numB
 have:l.all (fun c=>decide (48≤c.toNat∧c.toNat≤57))=true:=by
  rw[List.all_eq_true];intro c hc
  simpa [isDig] using h c hc
 rw[this,Bool.true_and]
theorem rnumber_any (s:ByteArray) (w:World) (hs:s.size≤140737488355328) :
 Calls Tryz.prog 158 #[.string s] w fun e w'=>e=.returned (.bool (numB s.data.toList))∧w=w':=by
 have hz:s.data.toList.length=s.size:=(Lib.size_eq _).symm;have HZ:=Lib.hid hz;clear hz;go_enter Tryz.func158,Tryz.ntmps158;go_wp2
 go_loop [3] (fun i=>∃k:Nat,k≤s.size∧i=.int .i64 (k:Int)∧Hid (∀j (h:j<s.size),j<k→isDig (s[j]))) (fun i=>s.size-(intOf i).toNat)
 case atStart=>exact⟨0,Nat.zero_le _,rfl,fun j _ h=>absurd h (by omega)⟩
 case round =>
  obtain⟨k,hk,rfl,hd⟩:=hrel
  by_cases hlt:k<s.size
  · have hb:Hid (¬isDig s[k]→numB s.data.toList=false):=fun h=>numB_bad (k:=k) (by have:=HZ.out;omega) h
    by_cases h1:(s[k].toNat:Int)<48
    · go_wp2;go_ret;exact⟨ret_b (hb.out (fun h=>by have:=h.1;omega)).symm,rfl⟩
    · by_cases h2:(57:Int)<(s[k].toNat:Int)
      · go_wp2;go_ret;exact⟨ret_b (hb.out (fun h=>by have:=h.2;omega)).symm,rfl⟩
      · go_wp2;go_round
        case rel =>
         refine⟨k+1,by omega,by go_num,fun j h hj=>?_⟩
         by_cases e:j=k
         · subst e;exact⟨by omega,by omega⟩
         · exact hd.out j h (by omega)
        case measure=>simp[intOf];omega
  · have hG:=Lib.hid (numB_good (l:=s.data.toList) (fun c hc=>by
     obtain⟨j,hj,rfl⟩:=List.getElem_of_mem hc;exact hd.out j (by have:=HZ.out;omega) (by have:=HZ.out;omega)))
    have hl:=HZ.out
    by_cases e1:s.size=1
    · have f1:((s.size:Int)==1)=true:=by simp[e1]
      have hv:numB s.data.toList=true:=by rw[hG.out,hl,e1];rfl
      have HV:=Lib.hid hv;clear hl hv e1;go_wp2;go_ret;exact⟨ret_b HV.out.symm,rfl⟩
    · have f1:((s.size:Int)==1)=false:=by rw[beq_eq_false_iff_ne];omega
      by_cases e0:s.size=0
      · have hv:numB s.data.toList=false:=by rw[hG.out,hl,e0];rfl
        have HV:=Lib.hid hv;have f2:decide ((1:Int)<(s.size:Int))=false:=by simp;omega
        clear hl hv e1 e0;go_wp2;go_ret;exact⟨ret_b HV.out.symm,rfl⟩
      · have hp:1<s.size:=by omega
        have hp0:0<s.size:=by omega
        have hv:numB s.data.toList=decide ((s[0].toNat:Int)≠48):=by
         rw[hG.out,hl,decide_eq_false e1,decide_eq_true hp,Bool.false_or,Bool.true_and]
         have e:s.data.toList.head? = some s[0]:=by
          rw[List.head?_eq_getElem?,List.getElem?_eq_getElem (by omega)];rfl
         rw[e]
         have key:(¬some s[0]=some (48:UInt8))↔¬((s[0].toNat:Int)=48):=by
          rw[Option.some.injEq,←UInt8.toNat_inj];have:(48:UInt8).toNat=48:=rfl;omega
         exact decide_eq_decide.2 key
        have HV:=Lib.hid hv
        by_cases h48:(s[0].toNat:Int)=48
        · have f3:((s[0].toNat:Int)==48)=true:=by rw[beq_iff_eq];exact h48
          have f4:((s[0].toNat:Int) != 48)=false:=by simp[h48]
          have HW:Hid (numB s.data.toList=false):=by unfold Hid;rw[HV.out];simp[h48]
          clear hl hv e1 e0 h48;go_wp2;go_ret;exact⟨ret_b HW.out.symm,rfl⟩
        · have f3:((s[0].toNat:Int)==48)=false:=by rw[beq_eq_false_iff_ne];exact h48
          have f4:((s[0].toNat:Int) != 48)=true:=by simp[h48]
          have HW:Hid (numB s.data.toList=true):=by unfold Hid;rw[HV.out];simp[h48]
          clear hl hv e1 e0 h48;go_wp2;go_ret;exact⟨ret_b HW.out.symm,rfl⟩
theorem RefIs_any (s:ByteArray) (w:World) (hs:s.size≤140737488355328) :
 Calls Tryz.prog 128 #[.string s] w fun e w'=>e=.returned (.bool (isN s))∧w=w':=by
 have HN:=Lib.hid (isN_numB s)
 by_cases h:s.size≤300
 · rw[decide_eq_true h,Bool.true_and]at HN;have h':(s.size:Int)≤300:=by omega
   go_enter Tryz.func128,Tryz.ntmps128
   go_wp2_with (go_at_call 158;refine(rnumber_any s _ hs).mono ?_;rintro e w' ⟨rfl,rfl⟩)
   go_ret;exact⟨ret_b HN.out.symm,rfl⟩
 · rw[decide_eq_false h,Bool.false_and]at HN;have h':decide ((s.size:Int)≤300)=false:=by simp;omega
   go_enter Tryz.func128,Tryz.ntmps128;go_wp2;go_ret;exact⟨ret_b HN.out.symm,rfl⟩
theorem Order_any (a b:Nat) (w:World) (_ha:(num a).size≤140737488355328) (_hb:(num b).size≤140737488355328) :
 Calls Tryz.prog 151 #[.string (num a),.string (num b)] w fun e w'=>e=.returned (.int .i64 (cmpN a b))∧w=w':=by
 have ea:=num_size a;have eb:=num_size b
 rcases Nat.lt_trichotomy (num a).size (num b).size with h | h | h
 · have hab:a<b:=dec_len_lt (by omega);have HC:=Lib.hid (cmpN_lt hab);clear ea eb hab;go_enter Tryz.func151,Tryz.ntmps151;go_wp2;go_ret;exact⟨ret_i64 HC.out.symm,rfl⟩
 · have f1:decide ((num a).size<(num b).size)=false:=by simp;omega
   have f2:(((num a).size:Int)==((num b).size:Int))=true:=by simp[h]
   have hbl:Op.bytesLess (num a).toList (num b).toList=decide (a<b):=by
    rw[Lib.toList_data,Lib.toList_data,num_list,num_list,Bool.eq_iff_iff,dec_less (by omega)];simp
   have hq:((num a).toList==(num b).toList)=decide (a=b):=by
    rw[Lib.toList_data,Lib.toList_data,num_list,num_list,Bool.eq_iff_iff,beq_iff_eq,decide_eq_true_iff];constructor
    · intro e;have:=congrArg dval e
      rwa [dval_decDigits,dval_decDigits]at this
    · intro e;rw[e]
   rcases Nat.lt_trichotomy a b with hab | hab | hab
   · rw[decide_eq_true hab]at hbl;have HC:=Lib.hid (cmpN_lt hab);clear ea eb h hab hq;go_enter Tryz.func151,Tryz.ntmps151;go_wp2;go_ret;exact⟨ret_i64 HC.out.symm,rfl⟩
   · rw[decide_eq_false (by omega)]at hbl;rw[decide_eq_true hab]at hq;have HC:Hid (cmpN a b=0):=by unfold Hid;rw[hab];exact cmpN_eq b
     clear ea eb h hab;go_enter Tryz.func151,Tryz.ntmps151;go_wp2;go_ret;exact⟨ret_i64 HC.out.symm,rfl⟩
   · rw[decide_eq_false (by omega)]at hbl;rw[decide_eq_false (by omega)]at hq;have HC:Hid (cmpN a b=1):=by unfold Hid cmpN;simp[hab,Nat.lt_asymm hab]
     clear ea eb h hab;go_enter Tryz.func151,Tryz.ntmps151;go_wp2;go_ret;exact⟨ret_i64 HC.out.symm,rfl⟩
 · have hab:b<a:=dec_len_lt (by omega);have f1:decide ((num a).size<(num b).size)=false:=by simp;omega
   have f2:(((num a).size:Int)==((num b).size:Int))=false:=by rw[beq_eq_false_iff_ne];omega
   have hq:((num a).toList==(num b).toList)=false:=by
    rw[beq_eq_false_iff_ne,Lib.toList_data,Lib.toList_data];intro e;have:=congrArg List.length e;rw[num_list,num_list]at this;omega
   have HC:Hid (cmpN a b=1):=by unfold Hid cmpN;simp[hab,Nat.lt_asymm hab]
   clear ea eb hab;go_enter Tryz.func151,Tryz.ntmps151;go_wp2;go_ret;exact⟨ret_i64 HC.out.symm,rfl⟩
theorem dval_take_lt {l:List UInt8} (h:∀c∈l,isDig c) (k:Nat):dval (l.take k)<10^k:=by
 have h1:=dval_lt (l:=l.take k) (fun c hc=>h c (List.mem_of_mem_take hc));exact Nat.lt_of_lt_of_le h1 (Nat.pow_le_pow_right (by omega) (by simp;omega))
theorem dval_take_succ (s:ByteArray) (k:Nat) (h:k<s.size):dval (s.data.toList.take (k+1))=dval (s.data.toList.take k)*10+(s[k].toNat-48):=by
 rw[List.take_succ_eq_append_getElem (by simpa using h),dval_append];simp[dval];rfl
theorem value_any (s:ByteArray) (w:World) (hs:s.size≤18) (hd:∀c∈s.data.toList,isDig c) :
 Calls Tryz.prog 171 #[.string s] w fun e w'=>e=.returned (.int .i64 (dval s.data.toList:Nat))∧w=w':=by
 have HD:=Lib.hid hd;clear hd;go_enter Tryz.func171,Tryz.ntmps171;go_wp2
 go_loop [3,4] (fun n i=>∃k v:Nat,k≤s.size∧i=.int .i64 (k:Int)∧n=.int .i64 (v:Int)∧Hid (v=dval (s.data.toList.take k))) (fun _ i=>s.size-(intOf i).toNat)
 case atStart=>exact⟨0,0,Nat.zero_le _,rfl,rfl,rfl⟩
 case round =>
  obtain⟨k,v,hk,rfl,rfl,hv⟩:=hrel
  by_cases hlt:k<s.size
  · have hb:v<100000000000000000:=by
     have h1:=dval_take_lt HD.out k;have h2:10^k≤10^17:=Nat.pow_le_pow_right (by omega) (by omega);have:=hv.out;omega
    have hdk:isDig s[k]:=HD.out _ (by
     have:s[k]=s.data.toList[k]'(by simpa using hlt):=rfl;rw[this];exact List.getElem_mem _)
    have h48:(48:Int)≤(s[k].toNat:Int):=by have:=hdk.1;omega
    have h57:(s[k].toNat:Int)≤57:=by have:=hdk.2;omega
    have HS:=Lib.hid (dval_take_succ s k hlt);clear hdk;go_wp2;go_round
    case rel=>exact⟨k+1,v*10+(s[k].toNat-48),by omega,by go_num,by go_num,by unfold Hid;rw[HS.out,←hv.out]⟩
    case measure=>simp[intOf];omega
  · obtain rfl:k=s.size:=by omega
    have e:s.data.toList.take s.size=s.data.toList:=List.take_of_length_le (by simp);rw[e]at hv;go_wp2;go_ret;exact⟨ret_i64 (by rw[hv.out]),rfl⟩
theorem value_num (n:Nat) (w:World) (hs:(num n).size≤18) :
 Calls Tryz.prog 171 #[.string (num n)] w fun e w'=>e=.returned (.int .i64 (n:Nat))∧w=w':=by
 have:=value_any (num n) w hs (by rw[num_list];exact decDigits_dig n)
 rwa [num_list,dval_decDigits]at this
theorem reftrim_any (s:ByteArray) (w:World) (hs:s.size≤140737488355328) (h0:0<s.size) (hd:∀c∈s.data.toList,isDig c) :
 Calls Tryz.prog 172 #[.string s] w fun e w'=>e=.returned (.string (num (dval s.data.toList)))∧w=w':=by
 have HD:=Lib.hid hd;have HZ:Hid (s.data.toList.length=s.size):=(Lib.size_eq _).symm;clear hd;go_enter Tryz.func172,Tryz.ntmps172;go_wp2
 go_loop [3] (fun i=>∃k:Nat,k<s.size∧i=.int .i64 (k:Int)∧Hid (∀j (h:j<s.data.toList.length),j<k→s.data.toList[j]=48)) (fun i=>s.size-(intOf i).toNat)
 case atStart=>exact⟨0,h0,rfl,fun j _ h=>absurd h (by omega)⟩
 case round =>
  obtain⟨k,hk,rfl,hz⟩:=hrel
  have hfin:Hid (k+1=s.size∨s[k]≠48→s.extract k s.size=num (dval s.data.toList)):=fun h=>by
   apply bytes_ext;rw[Lib.extract_to_end,num_list];have hz':=HZ.out;refine trimmed HD.out (i:=k) (by omega) (fun j hj=>hz.out j (by omega) hj) ?_
   rcases h with h | h
   · left;omega
   · right;exact h
  by_cases he:k+1=s.size
  · have f1:decide ((k:Int)<(s.size:Int)-1)=false:=by simp;omega
    have HE:=Lib.hid he;clear he;go_wp2;go_ret;exact⟨ret_str (hfin.out (.inl HE.out)),rfl⟩
  · have hl:(k:Int)<(s.size:Int)-1:=by omega
    clear he
    by_cases h48:s[k]=48
    · have hc:(s[k].toNat:Int)=48:=by rw[h48];rfl
      have f2:((s[k].toNat:Int)==48)=true:=by rw[beq_iff_eq];exact hc
      have H48:=Lib.hid h48;clear hc h48;go_wp2;go_round
      case rel =>
       refine⟨k+1,by omega,by go_num,fun j h hj=>?_⟩
       by_cases e:j=k
       · subst e;exact H48.out
       · exact hz.out j h (by omega)
      case measure=>simp[intOf];omega
    · have f2:((s[k].toNat:Int)==48)=false:=by
       rw[beq_eq_false_iff_ne];intro e;apply h48;apply UInt8.toNat_inj.1;have:(48:UInt8).toNat=48:=rfl;omega
      have H48:=Lib.hid h48;clear h48;go_wp2;go_ret;exact⟨ret_str (hfin.out (.inr H48.out)),rfl⟩
theorem digit_any (n i:Nat) (w:World) (hs:(num n).size≤140737488355328) (hi:i≤140737488355328) :
 Calls Tryz.prog 173 #[.string (num n),.int .i64 (i:Int)] w fun e w'=>e=.returned (.int .i64 ((n/10^i%10:Nat):Int))∧w=w':=by
 have hd:Hid (n/10^i%10=dgt (Lib.decDigits n) i):=(dgt_dec n i).symm;have hz:Hid ((num n).size=(Lib.decDigits n).length):=num_size n;generalize hv:n/10^i%10=v at hd
 by_cases h:i<(num n).size
 · have hj:((num n).size:Int)-1-(i:Int)=(((num n).size-1-i:Nat):Int):=by omega
   have hjl:(num n).size-1-i<(num n).size:=by omega
   have hdg:isDig ((num n)[(num n).size-1-i]):=decDigits_dig n _ (by
    have:(num n)[(num n).size-1-i]=(num n).data.toList[(num n).size-1-i]'(by simpa using hjl):=rfl;rw[this];exact List.getElem_mem _)
   have hval:Hid (v=(num n)[(num n).size-1-i].toNat-48):=by
    unfold Hid;rw[hd.out,dgt,dif_pos (by have:=hz.out;omega)]
    congr 2
   have h48:(48:Int)≤((num n)[(num n).size-1-i].toNat:Int):=by have:=hdg.1;omega
   have h57:((num n)[(num n).size-1-i].toNat:Int)≤57:=by have:=hdg.2;omega
   clear hdg hv;go_enter Tryz.func173,Tryz.ntmps173;go_wp2;go_ret;exact⟨ret_i64 (by rw[hval.out];omega),rfl⟩
 · have hval:Hid (v=0):=by
    unfold Hid;rw[hd.out,dgt,dif_neg (by have:=hz.out;omega)]
   clear hv;go_enter Tryz.func173,Tryz.ntmps173;go_wp2;go_ret;exact⟨ret_i64 (by rw[hval.out];rfl),rfl⟩
theorem reflimited_any (k:Nat) (w:World) (_hs:(num k).size≤140737488355328) :
 Calls Tryz.prog 141 #[.string (num k)] w fun e w'=>e=.returned (.tuple #[.string (strL k),.int .i64 (errL k)])∧w=w':=by
 have hz:=num_size k
 have h:300<(num k).size↔¬k<Lim:=by
  have e:(Lib.decDigits k).length≤300↔k<Lim:=by
   have:=decDigits_len_iff k mxd (by rw[mxd_eq];omega);rw[←mxd_eq];exact this
  omega
 have HG:Hid ((k<Lim→strL k=num k∧errL k=0)∧(¬k<Lim→strL k=⟨#[]⟩∧errL k=2)):=by
  unfold Hid strL errL;exact⟨fun h=>by rw[if_pos h,if_pos h];exact⟨rfl,rfl⟩,fun h=>by rw[if_neg h,if_neg h];exact⟨rfl,rfl⟩⟩
 by_cases hk:k<Lim
 · have f:decide ((300:Int)<((num k).size:Int))=false:=by simp;have:=(not_congr h).2 (by simpa using hk);omega
   have HK:=HG.out.1 hk;replace HK:=Lib.hid HK;clear hz h hk HG;go_enter Tryz.func141,Tryz.ntmps141;go_wp2;go_ret2;exact⟨by rw[HK.out.1,HK.out.2];rfl,rfl⟩
 · have f:(300:Int)<((num k).size:Int):=by have:=h.2 hk;omega
   have HK:=HG.out.2 hk;replace HK:=Lib.hid HK;clear hz h hk HG;go_enter Tryz.func141,Tryz.ntmps141;go_wp2;go_ret2;exact⟨by rw[HK.out.1,HK.out.2];rfl,rfl⟩
end Nt
end
section
open Go.RowKit Go.Shelf
namespace Nt
theorem infoI:(Tryz.prog.info? 3).map (fun i=>(i.zero,i.size,i.bytes))=some (some (.int .i64 0),1,8):=by kernel_rfl
def ivals (ds:List Nat):List Value:=ds.map fun d:Nat=>Value.int .i64 (d:Int)
theorem ivals_snoc (ds:List Nat) (d:Nat):ivals ds++[Value.int .i64 (d:Int)]=ivals (ds++[d]):=by simp[ivals]
def OwnI (B:Nat) (w:World) (v:Value) (ds:List Nat):Prop:=w.ownsRow B 3 1 v ds.length (ivals ds)
def IntsAt (w:World) (v:Value) (ds:List Nat):Prop :=
 ∃g off cap,v=.slice (some ⟨g,off,none⟩) ds.length cap∧g<w.heap.size∧∀i,i<ds.length→w.cell? ⟨g,off+i,none⟩=some (.int .i64 (lim ds i))
theorem OwnI.at {B:Nat} {w:World} {v:Value} {ds:List Nat} (h:OwnI B w v ds) (h0:ds≠[]):IntsAt w v ds:=by
 rcases id h.2 with⟨rfl,hx⟩ | ⟨g,cap,cur,rfl,hg,hh,hn,hcm,hcs,ht⟩
 · exact absurd (List.length_eq_zero_iff.1 hx) h0
 · refine⟨g,0,cap,rfl,(Array.getElem?_eq_some_iff.1 hh).1,fun i hi=>?_⟩;rw[Nat.zero_add,World.ownsRow.cellAt h i (by omega)];simp[ivals,lim,hi]
def RfRow (w:World) (g:Nat) (bs:List UInt8):Prop:=w.heap[g]? = some (.cells (bs.map fun c:UInt8=>Value.int .u8 (c.toNat:Int)).toArray 5 (0,0))
theorem RfRow.frozen {w:World} {g:Nat} {bs:List UInt8} (h:RfRow w g bs) (i:Nat):w.frozen? ⟨g,i,none⟩=false:=by
 unfold RfRow at h;simp[World.frozen?,h]
theorem RfRow.cell {w:World} {g:Nat} {bs:List UInt8} (h:RfRow w g bs) {i:Nat} (hi:i<bs.length):w.cell? ⟨g,i,none⟩=some (.int .u8 (bs[i].toNat:Int)):=by
 unfold RfRow at h;simp only[World.cell?,h];simp[hi]
theorem RfRow.set {w:World} {g:Nat} {bs:List UInt8} (h:RfRow w g bs) (i:Nat) (c:UInt8):RfRow (w.setCell ⟨g,i,none⟩ (.int .u8 (c.toNat:Int))) g (bs.set i c):=by
 unfold RfRow at h ⊢;simp only[World.setCell,Array.getElem?_modify,h];simp[List.map_set]
theorem madeZeroB (n:Nat):madeCells #[.int .u8 0] n=((List.replicate n (0:UInt8)).map fun c:UInt8=>Value.int .u8 (c.toNat:Int)).toArray:=by
 unfold madeCells;apply Array.ext
 · simp
 · intro i h1 h2;have e:i%1=0:=Nat.mod_one i;simp[e]
theorem RfRow.made0 (w:World) (n:Nat):RfRow (w.alloc (.cells (madeCells #[.int .u8 0] n) 5)) w.heap.size (List.replicate n 0):=by
 unfold RfRow;rw[heap_alloc_new,madeZeroB]
theorem RfRow.text {w:World} {g:Nat} {bs:List UInt8} (h:RfRow w g bs):(convert 35 9 (.slice (some ⟨g,0,none⟩) bs.length bs.length)).run Tryz.prog w=.ok (.string ⟨bs.toArray⟩) w:=by
 have:=run_convert_bytes_arg (P:=Tryz.prog) w 35 5 Tryz.underlying35 Tryz.underlying5 g 0 bs.length bs.length (bs.map fun c=>(c.toNat:Int)) (by simp)
  (fun i hi=>by rw[Nat.zero_add,h.cell hi];simp[hi]) 9 Tryz.underlying9
 rw[this]
 have e:(bs.map ((fun n:Int=>UInt8.ofNat n.toNat) ∘ fun c:UInt8=>(c.toNat:Int)))=bs:=by
  conv=>rhs;rw[←List.map_id bs]
  exact List.map_congr_left fun c _=>by simp
 simp only[strOfNums,List.map_map,e]
theorem run_make_bytes (n:Nat) (hn:n≤1000000) (w:World) :
 (Instr.makeSlice 35 (.int .i64 (n:Int)) (.int .i64 (n:Int))).run Tryz.prog w =
   .ok (.slice (some ⟨w.heap.size,0,none⟩) n n) (w.alloc (.cells (madeCells #[.int .u8 0] n) 5)) :=
 run_make_row' 35 5 (.int .u8 0) 1 Tryz.underlying35 infoB rfl .i64 .i64 n (by omega) (by omega) w
def fillB (ds:List Nat) (k:Nat):List UInt8:=List.replicate (ds.length-k) 0++dbytes (ds.take k)
theorem fillB_len (ds:List Nat) (k:Nat) (h:k≤ds.length):(fillB ds k).length=ds.length:=by simp[fillB,dbytes_len];omega
theorem fillB_zero (ds:List Nat):fillB ds 0=List.replicate ds.length 0:=by simp[fillB,dbytes]
theorem fillB_all (ds:List Nat):fillB ds ds.length=dbytes ds:=by simp[fillB]
theorem dbytes_snoc (ds:List Nat) (d:Nat):dbytes (ds++[d])=UInt8.ofNat (48+d)::dbytes ds:=by simp[dbytes]
theorem fillB_step (ds:List Nat) (k:Nat) (h:k<ds.length):(fillB ds k).set (ds.length-1-k) (UInt8.ofNat (48+lim ds k))=fillB ds (k+1):=by
 unfold fillB;rw[List.take_succ_eq_append_getElem h,dbytes_snoc,lim_lt _ _ h];have e:ds.length-k=(ds.length-(k+1))+1:=by omega
 rw[e,List.replicate_succ',List.append_assoc];have e2:ds.length-1-k=(List.replicate (ds.length-(k+1)) (0:UInt8)).length:=by simp;omega
 rw[e2,List.set_append_right _ _ (Nat.le_refl _)];simp
def TextRel (w:World) (ds:List Nat) (k:Nat) (wr:World):Prop:=RfRow wr w.heap.size (fillB ds k)∧Below w.heap.size w wr
theorem reftext_any (w:World) (v:Value) (ds:List Nat) (h:IntsAt w v ds) (h0:0<ds.length) (hl:ds.length≤100000) (hd:∀d∈ds,d<10) :
 Calls Tryz.prog 174 #[v] w fun e w'=>e=.returned (.string (num (dv ds)))∧Below w.heap.size w w':=by
 obtain⟨g,off,cap,rfl,hg,hc⟩:=h;have hmk:=run_make_bytes ds.length (by omega);have HD:=Lib.hid hd;have HC:=Lib.hid hc;have HV:Hid (dval (dbytes ds)=dv ds):=dval_dbytes hd;clear hd hc;go_enter Tryz.func174,Tryz.ntmps174;go_wp2
 go_loopw [4] (fun i wr=>∃k:Nat,k≤ds.length∧i=.int .i64 (k:Int)∧TextRel w ds k wr) (fun i _=>ds.length-(intOf i).toNat)
 case atStart=>exact⟨0,Nat.zero_le _,rfl,by rw[fillB_zero];exact RfRow.made0 _ _,(Below.refl _ _).alloc (Nat.le_refl _) _⟩
 case round =>
  obtain⟨k,hk,rfl,z1,z2⟩:=hrel;have hsz:=z2.size
  by_cases hlt:k<ds.length
  · have hck:=(z2.cell (p:=⟨g,off+k,none⟩) hg).trans (HC.out k hlt);have hdk:lim ds k<10:=by rw[lim_lt _ _ hlt];exact HD.out _ (List.getElem_mem _)
    have hj:(ds.length:Int)-1-(k:Int)=((ds.length-1-k:Nat):Int):=by omega
    have hjl:ds.length-1-k<ds.length:=by omega
    have hcell:=z1.cell (i:=ds.length-1-k) (by rw[fillB_len _ _ hk];omega);have hfz:=z1.frozen (ds.length-1-k)
    have HS:Hid (RfRow (wr.setCell ⟨w.heap.size,ds.length-1-k,none⟩ (.int .u8 (48+(lim ds k:Int)))) w.heap.size (fillB ds (k+1))):=by
     have:=z1.set (ds.length-1-k) (UInt8.ofNat (48+lim ds k));rw[fillB_step _ _ hlt,toNat_dig _ hdk]at this;have e:((48+lim ds k:Nat):Int)=48+(lim ds k:Int):=by omega
     rw[e]at this;exact this
    replace z2:=Lib.hid z2;clear z1 hmk;go_wp2
    go_roundw
    case rel=>exact⟨k+1,by omega,by go_num,HS.out,z2.out.setCell (Nat.le_refl _) _⟩
    case measure=>simp[intOf];omega
  · obtain rfl:k=ds.length:=by omega
    rw[fillB_all]at z1;have ht:=z1.text;rw[dbytes_len]at ht;replace z2:=Lib.hid z2;clear z1 hmk
    go_wp2_with fail
    refine(reftrim_any ⟨(dbytes ds).toArray⟩ _ (by have:=dbytes_len ds;simp[ByteArray.size];omega) (by have:=dbytes_len ds;simp[ByteArray.size];omega) (by simpa using dbytes_dig HD.out)).mono ?_;rintro e w' ⟨rfl,rfl⟩;go_wp2;go_ret;exact⟨ret_str (by rw[←HV.out]),z2.out⟩
end Nt
end
section
open Go.RowKit Go.Shelf
namespace Nt
theorem dv_lt {ds:List Nat} (h:∀d∈ds,d<10):dv ds<10^ds.length:=by
 rw[←dval_dbytes h];have:=dval_lt (dbytes_dig h)
 rwa [dbytes_len]at this
theorem lt_pow_size (n:Nat):n<10^(num n).size:=by
 rw[num_size];exact(decDigits_len_iff n _ (List.length_pos_iff.2 (decDigits_ne n))).1 (Nat.le_refl _)
theorem size_pos (n:Nat):0<(num n).size:=by rw[num_size];exact List.length_pos_iff.2 (decDigits_ne n)
theorem size_mono {a b:Nat} (h:a≤b):(num a).size≤(num b).size:=by
 have h1:=lt_pow_size b;have h2:=size_pos b;rw[num_size a];exact decDigits_len (Nat.lt_of_le_of_lt h h1) h2
theorem mod_size {a k:Nat} (h:(num a).size≤k):a%10^k=a:=mod_all (by rw[num_size]at h;exact h)
theorem snoc_all {ds:List Nat} {d:Nat} (h:∀x∈ds,x<10) (hd:d<10):∀x∈ds++[d],x<10:=by
 intro x hx
 rcases List.mem_append.1 hx with h1 | h1
 · exact h x h1
 · simp at h1;omega
def PlusRel (w:World) (a b:Nat) (k c:Nat) (v:Value) (wr:World):Prop :=
 ∃ds,ds.length=k∧(∀d∈ds,d<10)∧OwnI w.heap.size wr v ds∧dv ds+10^k*c=a%10^k+b%10^k∧Below w.heap.size w wr
theorem plus_end {D a b M c:Nat} (h:D+10^(M+1)*c=a%10^(M+1)+b%10^(M+1)) (ha:a<10^M) (hb:b<10^M):D=a+b:=by
 have e:10^(M+1)=10^M*10:=Nat.pow_succ ..;rw[Nat.mod_eq_of_lt (by omega),Nat.mod_eq_of_lt (by omega)]at h
 rcases Nat.eq_zero_or_pos c with h0 | h0
 · subst h0;omega
 · have:10^(M+1)*1≤10^(M+1)*c:=Nat.mul_le_mul_left _ h0;omega
theorem Plus_big (a b:Nat) (w:World) (ha:(num a).size≤10000) (hb:(num b).size≤10000) (hbig:¬((num a).size≤18∧(num b).size≤18)) :
 Calls Tryz.prog 150 #[.string (num a),.string (num b)] w fun e w'=>e=.returned (.string (num (a+b)))∧Below w.heap.size w w':=by
 obtain⟨i0,hi,hz0,hz1,hz2⟩:=info_parts infoI;obtain⟨M,hM⟩:∃M,M=max (num a).size (num b).size:=⟨_,rfl⟩;have hmx:max ((num a).size:Int) ((num b).size:Int)=(M:Int):=by omega
 have hM2:M≤10000:=by omega
 have HA:Hid (a<10^M∧b<10^M):=⟨Nat.lt_of_lt_of_le (lt_pow_size a) (Nat.pow_le_pow_right (by omega) (by omega)),Nat.lt_of_lt_of_le (lt_pow_size b) (Nat.pow_le_pow_right (by omega) (by omega))⟩;have hcs:18<(num a).size∨((num a).size≤18∧18<(num b).size):=by omega
 clear hM hbig
 rcases hcs with h18 | ⟨h18,h19⟩
 all_goals
  go_enter Tryz.func150,Tryz.ntmps150;go_wp2
  go_loopw [5,6,7] (fun v c i wr=>∃k cc:Nat,k≤M+1∧i=.int .i64 (k:Int)∧c=.int .i64 (cc:Int)∧cc≤1∧PlusRel w a b k cc v wr) (fun _ _ i _=>M+1-(intOf i).toNat)
  case atStart=>exact⟨0,0,by omega,rfl,rfl,by omega,[],rfl,fun _ h=>absurd h (by simp),World.ownsRow_nil _ _ _ _,by simp[dv,Nat.mod_one],Below.refl _ _⟩
  case round =>
   obtain⟨k,cc,hk,rfl,rfl,hcc,ds,z1,z2,z3,z4,z5⟩:=hrel;have hsz:=z5.size
   by_cases hlt:k<M+1
   · obtain ⟨x,hx⟩:∃x,x=a/10^k%10:=⟨_,rfl⟩;obtain⟨y,hy⟩:∃y,y=b/10^k%10:=⟨_,rfl⟩;have cx:=digit_any a k wr (by omega) (by omega);have cy:=digit_any b k wr (by omega) (by omega);have hr:=plus_round z4;rw[←hx]at cx hr;rw[←hy]at cy hr;have hx9:x<10:=by omega
     have hy9:y<10:=by omega
     have e1:(((x+y+cc)%10:Nat):Int)=((x:Int)+(y:Int)+(cc:Int))%10:=by omega
     have HS:Hid (∀w2 v2,w2.ownsRow w.heap.size 3 1 v2 (ds.length+1) (ivals ds++[Value.int .i64 (((x:Int)+(y:Int)+(cc:Int))%10)])→Below w.heap.size w w2→PlusRel w a b (k+1) ((x+y+cc)/10) v2 w2):=fun w2 v2 ho hb=>by
      refine⟨ds++[(x+y+cc)%10],by simp[z1],snoc_all z2 (by omega),?_,?_,hb⟩
      · unfold OwnI;rw[←ivals_snoc,e1,List.length_append];exact ho
      · rw[dv_snoc,z1];exact hr
     have HO:Hid (wr.ownsRow w.heap.size 3 1 u5 ds.length (ivals ds)):=z3;have HB:=Lib.hid z5;have HL:Hid (ds.length=k):=z1;clear z1 z2 z3 z4 z5 hx hy hr e1
     go_wp2_with fail
     refine cx.mono ?_;rintro e w1 ⟨rfl,rfl⟩
     go_wp2_with fail
     refine cy.mono ?_;rintro e w1 ⟨rfl,rfl⟩;clear cx cy
     go_wp2_with (at_builtin;refine wpList_append_own _ rfl _ _ 26 rfl w.heap.size 3 i0 (.int .i64 0) 1 8 Tryz.underlying26 hi hz0 hz1 hz2 rfl (by decide) u5 ds.length (ivals ds) rfl (HO.out.alloc _) ⟨wr.heap.size,0,none⟩ 1 1 [.int .i64 (((x:Int)+(y:Int)+(cc:Int))%10)] rfl rfl (one_new _ _ _) (one_cell _ _) (by have:=HL.out;unfold maxLen;omega) (by have:=HL.out;omega) (by simp;omega) ?_;intro v2 w2 hown2 hgr2 _)
     refine⟨⟨k+1,(x+y+cc)/10,by omega,by go_num,by go_num,by omega,HS.out w2 v2 hown2 ((HB.out.alloc (by omega) _).grown hgr2 (by simp;omega) (fun b e=>(HO.out.lt b e).1))⟩,by simp only[intOf];omega⟩
   · obtain rfl:k=M+1:=by omega
     have hv:=plus_end z4 HA.out.1 HA.out.2;have ct:=reftext_any wr u5 ds (z3.at (by intro h;rw[h]at z1;simp at z1)) (by omega) (by omega) z2;rw[hv]at ct;replace z5:=Lib.hid z5;clear z1 z2 z3 z4 hv
     go_wp2_with fail
     refine ct.mono ?_;rintro e w1 ⟨rfl,hb⟩;have hB:=Lib.hid (z5.out.trans (hb.mono hsz));clear hb ct;go_wp2;go_ret;exact⟨rfl,hB.out⟩
theorem pow18 {a:Nat} (h:(num a).size≤18):a<1000000000000000000:=by
 have h1:=lt_pow_size a;have h2:10^(num a).size≤10^18:=Nat.pow_le_pow_right (by omega) h;omega
theorem Plus_small (a b:Nat) (w:World) (ha:(num a).size≤18) (hb:(num b).size≤18) :
 Calls Tryz.prog 150 #[.string (num a),.string (num b)] w fun e w'=>e=.returned (.string (num (a+b)))∧w=w':=by
 have h1:=pow18 ha;have h2:=pow18 hb;have c1:=value_num a w ha;have c2:=value_num b w hb;have c3:=Decimal_any (a+b) w (by omega);rw[Int.natCast_add]at c3;go_enter Tryz.func150,Tryz.ntmps150
 go_wp2_with fail
 refine c1.mono ?_;rintro e w1 ⟨rfl,rfl⟩
 go_wp2_with fail
 refine c2.mono ?_;rintro e w1 ⟨rfl,rfl⟩
 go_wp2_with fail
 refine c3.mono ?_;rintro e w1 ⟨rfl,rfl⟩;go_wp2;go_ret;exact⟨rfl,rfl⟩
theorem Plus_any (a b:Nat) (w:World) (ha:(num a).size≤10000) (hb:(num b).size≤10000) :
 Calls Tryz.prog 150 #[.string (num a),.string (num b)] w fun e w'=>e=.returned (.string (num (a+b)))∧Below w.heap.size w w':=by
 by_cases h:(num a).size≤18∧(num b).size≤18
 · refine(Plus_small a b w h.1 h.2).mono ?_;rintro e w' ⟨rfl,rfl⟩;exact⟨rfl,Below.refl _ _⟩
 · exact Plus_big a b w ha hb h
def MinusRel (w:World) (a b:Nat) (k c:Nat) (v:Value) (wr:World):Prop :=
 ∃ds,ds.length=k∧(∀d∈ds,d<10)∧OwnI w.heap.size wr v ds∧dv ds+b%10^k=a%10^k+10^k*c∧Below w.heap.size w wr
theorem minus_end {D a b k c:Nat} (h:D+b%10^k=a%10^k+10^k*c) (ha:a<10^k) (hb:b≤a) (hD:D<10^k):D=a-b:=by
 rw[Nat.mod_eq_of_lt (by omega),Nat.mod_eq_of_lt ha]at h
 rcases Nat.eq_zero_or_pos c with h0 | h0
 · subst h0;omega
 · have:10^k*1≤10^k*c:=Nat.mul_le_mul_left _ h0;omega
theorem Minus_any (a b:Nat) (w:World) (ha:(num a).size≤10000) (hle:b≤a) :
 Calls Tryz.prog 152 #[.string (num a),.string (num b)] w fun e w'=>e=.returned (.string (num (a-b)))∧Below w.heap.size w w':=by
 obtain⟨i0,hi,hz0,hz1,hz2⟩:=info_parts infoI;have hb:=size_mono hle;have ha0:=size_pos a;have HA:=Lib.hid (lt_pow_size a);replace hle:=Lib.hid hle;go_enter Tryz.func152,Tryz.ntmps152;go_wp2
 go_loopw [5,6,7] (fun v c i wr=>∃k cc:Nat,k≤(num a).size∧i=.int .i64 (k:Int)∧c=.int .i64 (cc:Int)∧cc≤1∧MinusRel w a b k cc v wr) (fun _ _ i _=>(num a).size-(intOf i).toNat)
 case atStart=>exact⟨0,0,by omega,rfl,rfl,by omega,[],rfl,fun _ h=>absurd h (by simp),World.ownsRow_nil _ _ _ _,by simp[dv,Nat.mod_one],Below.refl _ _⟩
 case round =>
  obtain⟨k,cc,hk,rfl,rfl,hcc,ds,z1,z2,z3,z4,z5⟩:=hrel;have hsz:=z5.size
  by_cases hlt:k<(num a).size
  · obtain ⟨x,hx⟩:∃x,x=a/10^k%10:=⟨_,rfl⟩;obtain⟨y,hy⟩:∃y,y=b/10^k%10:=⟨_,rfl⟩;have cx:=digit_any a k wr (by omega) (by omega);have cy:=digit_any b k wr (by omega) (by omega);rw[←hx]at cx;rw[←hy]at cy;have hx9:x<10:=by omega
    have hy9:y<10:=by omega
    have HS:Hid (∀(z c':Nat) (d:Int) w2 v2,z<10→c'≤1→z+y+cc=x+10*c'→d=(z:Int)→w2.ownsRow w.heap.size 3 1 v2 (ds.length+1) (ivals ds++[Value.int .i64 d])→Below w.heap.size w w2→MinusRel w a b (k+1) c' v2 w2):=fun z c' d w2 v2 hz hc he hdz ho hb=>by
     subst hdz;refine⟨ds++[z],by simp[z1],snoc_all z2 hz,?_,?_,hb⟩
     · unfold OwnI;rw[←ivals_snoc,List.length_append];exact ho
     · rw[dv_snoc,z1];exact minus_round z4 (by rw[←hx,←hy];exact he)
    have HO:Hid (wr.ownsRow w.heap.size 3 1 u5 ds.length (ivals ds)):=z3;have HB:=Lib.hid z5;have HL:Hid (ds.length=k):=z1;clear z1 z2 z3 z4 z5 hx hy
    by_cases hneg:x<y+cc
    all_goals
     go_wp2_with fail
     refine cx.mono ?_;rintro e w1 ⟨rfl,rfl⟩
     go_wp2_with fail
     refine cy.mono ?_;rintro e w1 ⟨rfl,rfl⟩;clear cx cy
    · go_wp2_with (at_builtin;refine wpList_append_own _ rfl _ _ 26 rfl w.heap.size 3 i0 (.int .i64 0) 1 8 Tryz.underlying26 hi hz0 hz1 hz2 rfl (by decide) u5 ds.length (ivals ds) rfl (HO.out.alloc _) ⟨wr.heap.size,0,none⟩ 1 1 [.int .i64 ((x:Int)-(y:Int)-(cc:Int)+10)] rfl rfl (one_new _ _ _) (one_cell _ _) (by have:=HL.out;unfold maxLen;omega) (by have:=HL.out;omega) (by simp;omega) ?_;intro v2 w2 hown2 hgr2 _)
      refine⟨⟨k+1,1,by omega,by go_num,by go_num,by omega,HS.out (x+10-y-cc) 1 _ w2 v2 (by omega) (by omega) (by omega) (by omega) hown2 ((HB.out.alloc (by omega) _).grown hgr2 (by simp;omega) (fun b e=>(HO.out.lt b e).1))⟩,by simp only[intOf];omega⟩
    · go_wp2_with (at_builtin;refine wpList_append_own _ rfl _ _ 26 rfl w.heap.size 3 i0 (.int .i64 0) 1 8 Tryz.underlying26 hi hz0 hz1 hz2 rfl (by decide) u5 ds.length (ivals ds) rfl (HO.out.alloc _) ⟨wr.heap.size,0,none⟩ 1 1 [.int .i64 ((x:Int)-(y:Int)-(cc:Int))] rfl rfl (one_new _ _ _) (one_cell _ _) (by have:=HL.out;unfold maxLen;omega) (by have:=HL.out;omega) (by simp;omega) ?_;intro v2 w2 hown2 hgr2 _)
      refine⟨⟨k+1,0,by omega,by go_num,by go_num,by omega,HS.out (x-y-cc) 0 _ w2 v2 (by omega) (by omega) (by omega) (by omega) hown2 ((HB.out.alloc (by omega) _).grown hgr2 (by simp;omega) (fun b e=>(HO.out.lt b e).1))⟩,by simp only[intOf];omega⟩
  · obtain rfl:k=(num a).size:=by omega
    have hD:=dv_lt z2;rw[z1]at hD;have hv:=minus_end z4 HA.out hle.out hD;have ct:=reftext_any wr u5 ds (z3.at (by intro h;rw[h]at z1;simp at z1;omega)) (by omega) (by omega) z2;rw[hv]at ct;replace z5:=Lib.hid z5;clear z1 z2 z3 z4 hv hD
    go_wp2_with fail
    refine ct.mono ?_;rintro e w1 ⟨rfl,hb⟩;have hB:=Lib.hid (z5.out.trans (hb.mono hsz));clear hb ct;go_wp2;go_ret;exact⟨rfl,hB.out⟩
end Nt
end
section
open Go.RowKit Go.Shelf
namespace Nt
def RowI (w:World) (g:Nat) (zs:List Nat):Prop:=w.heap[g]? = some (.cells (ivals zs).toArray 3 (0,0))
theorem RowI.lt {w:World} {g:Nat} {zs:List Nat} (h:RowI w g zs):g<w.heap.size:=(Array.getElem?_eq_some_iff.1 h).1
theorem RowI.frozen {w:World} {g:Nat} {zs:List Nat} (h:RowI w g zs) (i:Nat):w.frozen? ⟨g,i,none⟩=false:=by
 unfold RowI at h;simp[World.frozen?,h]
theorem RowI.cell {w:World} {g:Nat} {zs:List Nat} (h:RowI w g zs) {i:Nat} (hi:i<zs.length):w.cell? ⟨g,i,none⟩=some (.int .i64 (lim zs i)):=by
 unfold RowI at h;simp only[World.cell?,h];simp[ivals,lim,hi]
theorem RowI.set {w:World} {g:Nat} {zs:List Nat} (h:RowI w g zs) (i:Nat) (y:Nat):RowI (w.setCell ⟨g,i,none⟩ (.int .i64 (y:Int))) g (zs.set i y):=by
 unfold RowI at h ⊢;simp only[World.setCell,Array.getElem?_modify,h];simp[ivals,List.map_set]
theorem RowI.at {w:World} {g:Nat} {zs:List Nat} (h:RowI w g zs):IntsAt w (.slice (some ⟨g,0,none⟩) zs.length zs.length) zs :=
 ⟨g,0,zs.length,rfl,h.lt,fun i hi=>by rw[Nat.zero_add];exact h.cell hi⟩
def TOut (w:World) (a b L g i:Nat) (wr:World):Prop :=
 ∃zs,zs.length=L∧RowI wr g zs∧(∀p,lim zs p≤81*i)∧dv zs=(a%10^i)*b∧Below w.heap.size w wr
def TIn (w:World) (a b L g i j:Nat) (wr:World):Prop :=
 ∃zs,zs.length=L∧RowI wr g zs∧(∀p,lim zs p≤81*(i+1))∧(∀p,i+j≤p→lim zs p≤81*i)∧dv zs=(a%10^i)*b+10^i*((a/10^i%10)*(b%10^j))∧Below w.heap.size w wr
theorem TIn.done {w wr:World} {a b L g i:Nat} (h:TIn w a b L g i (num b).size wr):TOut w a b L g (i+1) wr:=by
 obtain⟨zs,h1,h2,h3,h4,h5,h6⟩:=h;refine⟨zs,h1,h2,h3,?_,h6⟩;rw[h5,mod_size (Nat.le_refl _),mod_pow_succ,Nat.add_mul,Nat.mul_assoc]
theorem TIn.at {w wr:World} {a b L g i j:Nat} (h:TIn w a b L g i j wr) (hl:i+j<L) :
 ∃z:Nat,z≤81*i∧wr.cell? ⟨g,i+j,none⟩=some (.int .i64 (z:Int))∧wr.frozen? ⟨g,i+j,none⟩=false:=by
 obtain⟨zs,h1,h2,h3,h4,h5,h6⟩:=h;exact⟨lim zs (i+j),h4 _ (Nat.le_refl _),h2.cell (by omega),h2.frozen _⟩
theorem TIn.step {w wr:World} {a b L g i j:Nat} (h:TIn w a b L g i j wr) (hl:i+j<L) (hg:w.heap.size≤g) {z x y:Nat} {d:Int} (hz:wr.cell? ⟨g,i+j,none⟩=some (.int .i64 (z:Int)))
 (hx:x=a/10^i%10) (hy:y=b/10^j%10) (hd:d=((z+x*y:Nat):Int)):TIn w a b L g i (j+1) (wr.drew.setCell ⟨g,i+j,none⟩ (.int .i64 d)):=by
 subst hd;obtain⟨zs,h1,h2,h3,h4,h5,h6⟩:=h;have hc:=h2.cell (i:=i+j) (by omega);rw[hz]at hc;have hzz:z=lim zs (i+j):=by simp at hc;omega
 have hxy:x*y≤9*9:=Nat.mul_le_mul (by omega) (by omega);have hzl:=h4 (i+j) (Nat.le_refl _);have h2':RowI wr.drew g zs:=h2;refine⟨zs.set (i+j) (z+x*y),by simpa using h1,h2'.set _ _,fun p=>?_,fun p hp=>?_,?_,h6.drew.setCell hg _⟩
 · by_cases e:p=i+j
   · subst e;rw[lim_set _ _ _ (by omega)];omega
   · rw[lim_set_ne _ _ _ _ e];exact h3 p
 · rw[lim_set_ne _ _ _ _ (by omega)];exact h4 p (by omega)
 · have hs:=dv_set zs (i+j) (z+x*y) (by omega);rw[←hzz,Nat.mul_add]at hs;rw[mod_pow_succ b j,←hy,←hx,Nat.mul_add,Nat.mul_add];have e:10^(i+j)*(x*y)=10^i*(x*(10^j*y)):=by rw[Nat.pow_add,Nat.mul_assoc,Nat.mul_left_comm (10^j)]
   rw[←hx]at h5;omega
def TCar (w:World) (a b L g i:Nat) (wr:World):Prop :=
 ∃zs,zs.length=L∧RowI wr g zs∧(∀p,p<i→lim zs p<10)∧lim zs i≤900000∧(∀p,i<p→lim zs p≤810000)∧dv zs=a*b∧Below w.heap.size w wr
theorem TCar.at {w wr:World} {a b L g i:Nat} (h:TCar w a b L g i wr) (hl:i+1<L) :
 ∃z y:Nat,z≤900000∧y≤810000∧wr.cell? ⟨g,i,none⟩=some (.int .i64 (z:Int))∧wr.cell? ⟨g,i+1,none⟩=some (.int .i64 (y:Int))∧wr.frozen? ⟨g,i,none⟩=false∧wr.frozen? ⟨g,i+1,none⟩=false:=by
 obtain⟨zs,h1,h2,h3,h4,h5,h6,h7⟩:=h;exact⟨lim zs i,lim zs (i+1),h4,h5 _ (by omega),h2.cell (by omega),h2.cell (by omega),h2.frozen _,h2.frozen _⟩
theorem TCar.step {w wr:World} {a b L g i:Nat} (h:TCar w a b L g i wr) (hl:i+1<L) (hg:w.heap.size≤g) {z y:Nat} {d1 d2:Int} (hz:wr.cell? ⟨g,i,none⟩=some (.int .i64 (z:Int))) (hy:wr.cell? ⟨g,i+1,none⟩=some (.int .i64 (y:Int)))
 (e1:d1=((y+z/10:Nat):Int)) (e2:d2=((z%10:Nat):Int)):TCar w a b L g (i+1) ((wr.drew.setCell ⟨g,i+1,none⟩ (.int .i64 d1)).setCell ⟨g,i,none⟩ (.int .i64 d2)):=by
 subst e1 e2;obtain⟨zs,h1,h2,h3,h4,h5,h6,h7⟩:=h;have hc:=h2.cell (i:=i) (by omega);rw[hz]at hc;have hzz:z=lim zs i:=by simp at hc;omega
 have hc2:=h2.cell (i:=i+1) (by omega);rw[hy]at hc2;have hyy:y=lim zs (i+1):=by simp at hc2;omega
 have h2':RowI wr.drew g zs:=h2;have hb:=h5 (i+1) (by omega);refine⟨(zs.set (i+1) (y+z/10)).set i (z%10),by simpa using h1,(h2'.set _ _).set _ _,fun p hp=>?_,?_,fun p hp=>?_,?_,(h7.drew.setCell hg _).setCell hg _⟩
 · by_cases e:p=i
   · subst e;rw[lim_set _ _ _ (by simp;omega)];omega
   · rw[lim_set_ne _ _ _ _ e,lim_set_ne _ _ _ _ (by omega)];exact h3 p (by omega)
 · rw[lim_set_ne _ _ _ _ (by omega),lim_set _ _ _ (by omega)];omega
 · rw[lim_set_ne _ _ _ _ (by omega),lim_set_ne _ _ _ _ (by omega)];exact h5 p (by omega)
 · have s1:=dv_set zs (i+1) (y+z/10) (by omega);have s2:=dv_set (zs.set (i+1) (y+z/10)) i (z%10) (by simp;omega);rw[lim_set_ne _ _ _ _ (by omega),←hzz]at s2;rw[←hyy,Nat.pow_succ]at s1;rw[←h6];generalize 10^i=P at s1 s2;have e3:P*z=P*(z%10)+P*10*(z/10):=by rw[Nat.mul_assoc,←Nat.mul_add,Nat.mod_add_div]
   rw[Nat.mul_add]at s1;omega
theorem TCar.end {w wr:World} {a b L g:Nat} (h:TCar w a b (L+1) g L wr) (hL:a*b<10^L):∃zs,zs.length=L+1∧RowI wr g zs∧(∀d∈zs,d<10)∧dv zs=a*b∧Below w.heap.size w wr:=by
 obtain⟨zs,h1,h2,h3,h4,h5,h6,h7⟩:=h;refine⟨zs,h1,h2,fun d hd=>?_,h6,h7⟩;obtain⟨p,hp,rfl⟩:=List.getElem_of_mem hd;rw[←lim_lt _ _ hp]
 by_cases e:p<L
 · exact h3 p e
 · obtain rfl:p=L:=by omega
   have h8:=dv_ge zs p hp
   rcases Nat.eq_zero_or_pos (lim zs p) with h0 | h0
   · omega
   · have:10^p*1≤10^p*lim zs p:=Nat.mul_le_mul_left _ h0;omega
end Nt
end
section
open Go.RowKit Go.Shelf
namespace Nt
theorem num_zero:num 0=⟨#[48]⟩:=num_lit [48] 0 (by decide) (by decide)
theorem Over_less (a b:Nat) (w:World) (ha:(num a).size≤10000) (hb:(num b).size≤10000) (h:a<b) :
 Calls Tryz.prog 140 #[.string (num a),.string (num b)] w fun e w'=>e=.returned (.tuple #[.string (num (a/b)),.string (num (a%b))])∧w=w':=by
 have c1:=Order_any a b w (by omega) (by omega);rw[cmpN_lt h]at c1;have HV:Hid (num (a/b)=⟨#[48]⟩∧num (a%b)=num a):=⟨by rw[Nat.div_eq_of_lt h,num_zero],by rw[Nat.mod_eq_of_lt h]⟩;clear h;go_enter Tryz.func140,Tryz.ntmps140
 go_wp2_with fail
 refine c1.mono ?_;rintro e w1 ⟨rfl,rfl⟩;go_wp2;go_ret2;exact⟨by rw[HV.out.1,HV.out.2];rfl,rfl⟩
theorem cmpN_ge {a b:Nat} (h:b≤a):∃c:Int,c=cmpN a b∧0≤c∧c≤1:=by
 refine⟨_,rfl,?_⟩;unfold cmpN;rw[if_neg (by omega)]
 split<;>omega
theorem Over_small (a b:Nat) (w:World) (ha:(num a).size≤18) (hb0:b≠0) (h:b≤a) :
 Calls Tryz.prog 140 #[.string (num a),.string (num b)] w fun e w'=>e=.returned (.tuple #[.string (num (a/b)),.string (num (a%b))])∧w=w':=by
 have hb:=size_mono h;have h1:=pow18 ha;have c1:=Order_any a b w (by omega) (by omega);obtain⟨c,hc,hc0,hc1⟩:=cmpN_ge h;rw[←hc]at c1;have v1:=value_num a w ha;have v2:=value_num b w (by omega);have hq:=Nat.div_le_self a b;have hr:a%b<b:=Nat.mod_lt _ (by omega);have d1:=Decimal_any (a/b) w (by omega);have d2:=Decimal_any (a%b) w (by omega);rw[Int.natCast_ediv]at d1;rw[Int.natCast_emod]at d2;have hz:((b:Int)==0)=false:=by rw[beq_eq_false_iff_ne];omega
 have hw:wrap64 ((a:Int)/(b:Int))=(a:Int)/(b:Int):=by
  have e:(a:Int)/(b:Int)=((a/b:Nat):Int):=by simp
  rw[e];generalize a/b=q at hq;exact IntWalk.wrap64_in _ ⟨by omega,by omega⟩
 clear hc hq hr;replace hb0:=Lib.hid hb0;go_enter Tryz.func140,Tryz.ntmps140
 go_wp2_with fail
 refine c1.mono ?_;rintro e w1 ⟨rfl,rfl⟩
 go_wp2_with fail
 refine v1.mono ?_;rintro e w1 ⟨rfl,rfl⟩
 go_wp2_with fail
 refine v2.mono ?_;rintro e w1 ⟨rfl,rfl⟩
 go_wp2_with fail
 refine d1.mono ?_;rintro e w1 ⟨rfl,rfl⟩
 go_wp2_with fail
 refine v1.mono ?_;rintro e w1 ⟨rfl,rfl⟩
 go_wp2_with fail
 refine v2.mono ?_;rintro e w1 ⟨rfl,rfl⟩
 go_wp2_with fail
 refine d2.mono ?_;rintro e w1 ⟨rfl,rfl⟩;go_wp2;go_ret2;exact⟨rfl,rfl⟩
def OvRel (w:World) (a b i:Nat) (v:Value) (s:ByteArray) (wr:World):Prop :=
 ∃ qs:List UInt8,(∀c∈qs,isDig c)∧(∀c∈s.data.toList,isDig c)∧s.size≤20000∧qs.length≤i∧dval ((num a).data.toList.take i)=dval qs*b+val s∧val s<b ∧
  (i+1=(num b).size∨(s=num (val s)∧qs≠[]))∧OwnB w.heap.size wr v qs∧Below w.heap.size w wr
def SubRel (w:World) (R b:Nat) (qs:List UInt8) (v:Value) (t r:Nat) (wr:World):Prop:=r+t*b=R∧OwnB w.heap.size wr v qs∧Below w.heap.size w wr
theorem ov_digits {s a:ByteArray} {i:Nat} (hi:i<a.size) (hs:∀c∈s.data.toList,isDig c) (ha:∀c∈a.data.toList,isDig c) :
 (s++a.extract i (i+1)).data.toList=s.data.toList++[a[i]]∧(∀c∈(s++a.extract i (i+1)).data.toList,isDig c)∧(s++a.extract i (i+1)).size=s.size+1:=by
 have e:(s++a.extract i (i+1)).data.toList=s.data.toList++[a[i]]:=by
  rw[ByteArray.toList_data_append,Lib.extract_data,show i+1-i=1 by omega]
  congr 1
  rw[List.drop_eq_getElem_cons (by simpa using hi)];rfl
 refine⟨e,fun c hc=>?_,?_⟩
 · rw [e]at hc
   rcases List.mem_append.1 hc with h | h
   · exact hs c h
   · simp at h;subst h
     exact ha _ (by
      have:a[i]=a.data.toList[i]'(by simpa using hi):=rfl;rw[this];exact List.getElem_mem _)
 · rw[Lib.size_eq,e];simp
theorem ov_start (a b:Nat) (hb0:b≠0) :
 ((num a).extract 0 ((num b).size-1)).data.toList=(num a).data.toList.take ((num b).size-1)∧dval ((num a).data.toList.take ((num b).size-1))<b:=by
 constructor
 · rw[Lib.extract_data];simp
 · have h1:=dval_take_lt (l:=(num a).data.toList) (by rw[num_list];exact decDigits_dig a) ((num b).size-1);have hp:=size_pos b
   by_cases hs:(num b).size-1=0
   · rw[hs]at h1 ⊢;simp only[List.take_zero,dval_nil];omega
   · have h2:¬b<10^((num b).size-1):=fun hc=>by
      have:=decDigits_len hc (by omega);rw[←num_size]at this;omega
     omega
theorem sub_done {A Q S b c t r:Nat} (h1:A=Q*b+S) (h2:r+t*b=S*10+c):A*10+c=(Q*10+t)*b+r:=by
 rw[h1,Nat.add_mul,Nat.add_mul,Nat.mul_assoc,Nat.mul_assoc,Nat.mul_comm b 10];omega
theorem ov_lt {S b c:Nat} (h1:S<b) (h2:c≤9):S*10+c<10*b:=by omega
theorem sub_more {t r b R:Nat} (h:r+t*b=R) (hR:R<10*b) (hr:b≤r):t+1≤9∧(r-b)+(t+1)*b=R:=by
 have e:(t+1)*b=t*b+b:=Nat.succ_mul t b;refine⟨?_,by omega⟩
 rcases Nat.lt_or_ge t 9 with h9 | h9
 · omega
 · have:9*b≤t*b:=Nat.mul_le_mul_right _ h9;omega
theorem div_done {a b Q S:Nat} (h:a=Q*b+S) (hs:S<b):Q=a/b∧S=a%b:=by
 subst h;constructor
 · rw[Nat.add_comm,Nat.add_mul_div_right _ _ (by omega),Nat.div_eq_of_lt hs,Nat.zero_add]
 · rw[Nat.add_comm,Nat.add_mul_mod_self_right,Nat.mod_eq_of_lt hs]
theorem Over_big (a b:Nat) (w:World) (ha:(num a).size≤9000) (ha18:18<(num a).size) (hb0:b≠0) (h:b≤a) :
 Calls Tryz.prog 140 #[.string (num a),.string (num b)] w fun e w'=>e=.returned (.tuple #[.string (num (a/b)),.string (num (a%b))])∧Below w.heap.size w w':=by
 obtain⟨i0,hi,hz0,hz1,hz2⟩:=info_parts infoB;have hb:=size_mono h;have hbp:=size_pos b;have c1:=Order_any a b w (by omega) (by omega);obtain⟨c,hc,hc0,hc1⟩:=cmpN_ge h;rw[←hc]at c1;have hbi:((num b).size:Int)-1=(((num b).size-1:Nat):Int):=by omega
 have hbl:(num b).size-1≤(num a).size:=by omega
 have HS:=Lib.hid (ov_start a b hb0);have HD:Hid (∀c∈(num a).data.toList,isDig c):=by unfold Hid;rw[num_list];exact decDigits_dig a
 have HV:Hid (dval ((num a).data.toList.take (num a).size)=a):=by
  unfold Hid;rw[List.take_of_length_le (by rw[num_size,num_list];exact Nat.le_refl _),num_list,dval_decDigits]
 replace hb0:=Lib.hid hb0;clear hc h;go_enter Tryz.func140,Tryz.ntmps140
 go_wp2_with fail
 refine c1.mono ?_;rintro e w1 ⟨rfl,rfl⟩;clear c1
 go_wp2_with (at_make;refine wpList_make_own _ rfl _ _ 35 rfl w.heap.size 5 i0 (.int .u8 0) 1 Tryz.underlying35 hi hz0 hz1 _ _ _ (num a).size rfl rfl (by omega) (by rw[hz2];omega) (by unfold maxLen;omega) (Nat.le_refl _) ?_;intro w1 hown1 hgr1)
 have h0:OwnB w.heap.size w1 (.slice (some ⟨w.heap.size,0,none⟩) 0 (num a).size) []:=hown1;have hw1:Below w.heap.size w w1:=(Below.refl _ _).grown hgr1 (Nat.le_refl _) (fun k e=>by cases e);replace h0:=Lib.hid h0;replace hw1:=Lib.hid hw1;clear hown1 hgr1
 go_loopw [6,7,8] (fun v r i wr=>∃(k:Nat) (s:ByteArray),(num b).size≤k+1∧k≤(num a).size∧i=.int .i64 (k:Int)∧r=.string s∧OvRel w a b k v s wr) (fun _ _ i _=>(num a).size-(intOf i).toNat)
 case atStart =>
  refine⟨(num b).size-1,_,by omega,by omega,rfl,rfl,[],fun _ h=>absurd h (by simp),?_,?_,by simp,?_,?_,.inl (by omega),h0.out,hw1.out⟩
  · rw[HS.out.1];exact fun c hc=>HD.out c (List.mem_of_mem_take hc)
  · rw[Lib.size_eq,HS.out.1];simp;omega
  · unfold val;rw[HS.out.1];simp[dval]
  · unfold val;rw[HS.out.1];exact HS.out.2
 case round =>
  obtain⟨k,s,hk1,hk,rfl,rfl,qs,z1,z2,z3,z4,z5,z6,z7,z8,z9⟩:=hrel;clear h0 hw1;have hsz:=z9.size
  by_cases hlt:k<(num a).size
  · have hov:=ov_digits hlt z2 HD.out;have ct:=reftrim_any (s++(num a).extract k (k+1)) wr (by omega) (by omega) hov.2.1;obtain⟨c,hc⟩:∃c,c=(num a)[k].toNat-48:=⟨_,rfl⟩
    have hcd:isDig ((num a)[k]):=HD.out _ (by
     have:(num a)[k]=(num a).data.toList[k]'(by simpa using hlt):=rfl;rw[this];exact List.getElem_mem _)
    have hc9:c≤9:=by have:=hcd.2;omega
    have hR:dval (s++(num a).extract k (k+1)).data.toList=val s*10+c:=by
     rw[hov.1,dval_append,hc];simp[dval,val]
    rw[hR]at ct;have hA:=dval_take_succ (num a) k hlt;rw[←hc]at hA;have hRl:=ov_lt z6 hc9;obtain⟨R,hRe⟩:∃R,R=val s*10+c:=⟨_,rfl⟩;rw[←hRe]at ct hRl
    have HN:Hid (∀(t r:Nat) (d:Int) v2 w2,r+t*b=R→r<b→t≤9→d=48+(t:Int)→w2.ownsRow w.heap.size 5 1 v2 (qs.length+1) (Lib.byteCells qs++[Value.int .u8 d])→Below w.heap.size w w2→(num r).size≤20000→OvRel w a b (k+1) v2 (num r) w2):=by
     intro t r d v2 w2 h1 h2 h3 h4 ho hb' hsz';refine⟨qs++[UInt8.ofNat (48+t)],?_,by rw[num_list];exact decDigits_dig r,hsz',by simp;omega,?_,by rw[val_num];exact h2,.inr ⟨by rw[val_num],by simp⟩,?_,hb'⟩
     · intro x hx
       rcases List.mem_append.1 hx with h | h
       · exact z1 x h
       · simp at h;subst h;unfold isDig;have:=toNat_dig t (by omega);rw[show (48+UInt8.ofNat t:UInt8)=UInt8.ofNat (48+t) from by simp] ;omega
     · rw [hA,dval_append,val_num]
       have e:dval [UInt8.ofNat (48+t)]=t:=by
        have:=toNat_dig t (by omega);simp only[dval,List.foldl_cons,List.foldl_nil];omega
       rw[e];simp only[List.length_cons,List.length_nil];exact sub_done z5 (by rw[h1,hRe])
     · unfold OwnB;rw[←byteCells_snoc,List.length_append,toNat_dig t (by omega)];have e:((48+t:Nat):Int)=d:=by omega
       rw[e];exact ho
    have HO:Hid (OwnB w.heap.size wr u6 qs):=z8;have HB:=Lib.hid z9;have HL:Hid (qs.length≤k):=z4;have HR:=Lib.hid hRl;clear z1 z2 z4 z5 z6 z7 z8 z9 hov hR hA hRl hcd hc hRe;have hki:((k:Int)+1).toNat=k+1:=by omega
    go_wp2_with fail
    refine ct.mono ?_;rintro e w2 ⟨rfl,rfl⟩;clear ct;go_wp2;obtain⟨wo,rfl⟩:∃wo:World,wo=wr:=⟨_,rfl⟩
    go_loopw [7,9] (fun r d wr=>∃t r':Nat,t≤9∧r=.string (num r')∧d=.int .u8 (48+(t:Int))∧SubRel w R b qs u6 t r' wr) (fun _ d _=>57-(intOf d).toNat)
    case atStart=>exact⟨0,R,by omega,rfl,rfl,by simp,HO.out,HB.out⟩
    case round =>
     obtain⟨t,r',ht,rfl,rfl,y1,y2,y3⟩:=hrel
     have hr':(num r').size≤10000:=by
      have h1:=size_mono (show r'≤R by omega);have h2:=HR.out
      have h3:(num R).size≤(num b).size+1:=by
       rw[num_size];refine decDigits_len ?_ (by omega);have:=lt_pow_size b;rw[Nat.pow_succ];omega
      omega
     have cm:=Minus_any r' b wr hr';have co:=Order_any r' b wr (by omega) (by omega);have hsz:=y3.size;replace y1:=Lib.hid y1;replace y3:=Lib.hid y3
     by_cases hlt2:r'<b
     · rw[cmpN_lt hlt2]at co;have HQ:Hid (wr.ownsRow w.heap.size 5 1 u6 qs.length (Lib.byteCells qs)):=y2;replace hlt2:=Lib.hid hlt2;clear y2 cm
       go_wp2_with fail
       refine co.mono ?_;rintro e w2 ⟨rfl,rfl⟩;clear co
       go_wp2_with (at_builtin;refine wpList_append_own _ rfl _ _ 35 rfl w.heap.size 5 i0 (.int .u8 0) 1 1 Tryz.underlying35 hi hz0 hz1 hz2 rfl (by decide) u6 qs.length (Lib.byteCells qs) rfl (HQ.out.alloc _) ⟨wr.heap.size,0,none⟩ 1 1 [.int .u8 (48+(t:Int))] rfl rfl (one_new _ _ _) (one_cell _ _) (by have:=HL.out;unfold maxLen;omega) (by have:=HL.out;omega) (by simp;omega) ?_;intro v2 w2 hown2 hgr2 _)
       exact⟨⟨k+1,num r',by omega,by omega,by go_num,rfl,HN.out t r' _ v2 w2 y1.out hlt2.out ht rfl hown2 ((y3.out.alloc (by omega) _).grown hgr2 (by simp;omega) (fun b e=>(HQ.out.lt b e).1)) (by omega)⟩,by simp only[intOf];omega⟩
     · have hge:b≤r':=by omega
       obtain⟨c,hc,hc0,hc1⟩:=cmpN_ge hge;rw[←hc]at co;have hmore:=Lib.hid (sub_more y1.out HR.out hge);have cm:=cm hge;replace y2:=Lib.hid y2;clear hc hlt2
       go_wp2_with fail
       refine co.mono ?_;rintro e w2 ⟨rfl,rfl⟩;clear co
       go_wp2_with fail
       refine cm.mono ?_;rintro e w2 ⟨rfl,hb2⟩;replace hb2:=Lib.hid hb2;clear cm;go_wp2;refine⟨⟨t+1,r'-b,hmore.out.1,rfl,by go_num,hmore.out.2,y2.out.below hb2.out,y3.out.trans (hb2.out.mono hsz)⟩,?_⟩;have:=hmore.out.1;simp only[intOf];omega
  · obtain rfl:k=(num a).size:=by omega
    have hz7:s=num (val s)∧qs≠[]:=by
     rcases z7 with h | h
     · omega
     · exact h
    have hdd:=div_done (a:=a) (by rw[←z5];exact HV.out.symm) z6;have ht:=z8.text;have hql:0<qs.length:=List.length_pos_iff.2 hz7.2;have ct:=reftrim_any ⟨qs.toArray⟩ wr (by simp[ByteArray.size];omega) (by simp[ByteArray.size];omega) (by simpa using z1);have e:(⟨qs.toArray⟩:ByteArray).data.toList=qs:=rfl;rw[e,hdd.1]at ct;have HF:Hid (s=num (a%b)):=by unfold Hid;rw[←hdd.2];exact hz7.1
    have HB:=Lib.hid z9;clear z1 z2 z4 z5 z6 z7 z8 z9 hz7 hdd hql e
    go_wp2_with fail
    refine ct.mono ?_;rintro e w2 ⟨rfl,rfl⟩;go_wp2;go_ret2;exact⟨by rw[HF.out];rfl,HB.out⟩
theorem Over_any (a b:Nat) (w:World) (ha:(num a).size≤9000) (hb:(num b).size≤9000) (hb0:b≠0) :
 Calls Tryz.prog 140 #[.string (num a),.string (num b)] w fun e w'=>e=.returned (.tuple #[.string (num (a/b)),.string (num (a%b))])∧Below w.heap.size w w':=by
 rcases Nat.lt_or_ge a b with h | h
 · refine(Over_less a b w (by omega) (by omega) h).mono ?_;rintro e w' ⟨rfl,rfl⟩;exact⟨rfl,Below.refl _ _⟩
 · by_cases h18:(num a).size≤18
   · refine(Over_small a b w h18 hb0 h).mono ?_;rintro e w' ⟨rfl,rfl⟩;exact⟨rfl,Below.refl _ _⟩
   · exact Over_big a b w ha (by omega) hb0 h
def ComRel (G:Nat) (w:World) (g:Nat) (v u:Value) (wr:World):Prop :=
 ∃k:Nat,v=.string (num k)∧u=.string (num g)∧Nat.gcd k g=G∧(num k).size≤9000∧(num g).size≤9000∧Below w.heap.size w wr
theorem num_is_zero (g:Nat):((num g).toList==[48])=decide (g=0):=by
 rw[Lib.toList_data,num_list,Bool.eq_iff_iff,beq_iff_eq,decide_eq_true_iff];constructor
 · intro e;have:=congrArg dval e;rw[dval_decDigits]at this;rw[this];rfl
 · intro e;subst e;rw[Lib.decDigits_one (by omega)];rfl
theorem Common_any (a b:Nat) (w:World) (ha:(num a).size≤9000) (hb:(num b).size≤9000) :
 Calls Tryz.prog 139 #[.string (num a),.string (num b)] w fun e w'=>e=.returned (.string (num (Nat.gcd a b)))∧Below w.heap.size w w':=by
 go_enter Tryz.func139,Tryz.ntmps139;go_wp2
 go_loopg [0,1] b (fun g v u wr=>ComRel (Nat.gcd a b) w g v u wr)
 case atStart=>exact⟨a,rfl,rfl,rfl,ha,hb,Below.refl _ _⟩
 case round =>
  obtain⟨k,rfl,rfl,h3,h4,h5,h6⟩:=hrel;have hsz:=h6.size;have hz:=num_is_zero gk
  by_cases hg:gk=0
  · rw[decide_eq_true hg]at hz;have HF:Hid (num k=num (Nat.gcd a b)):=by unfold Hid;rw[←h3,hg,Nat.gcd_zero_right]
    replace h6:=Lib.hid h6;clear h3 hg;go_wp2;go_ret;exact⟨ret_str HF.out,h6.out⟩
  · rw [decide_eq_false hg]at hz;have hc:=Over_any k gk wr h4 h5 hg;replace h3:=Lib.hid h3;replace h6:=Lib.hid h6;replace hg:=Lib.hid hg
    go_wp2_with fail
    refine hc.mono ?_;rintro e w2 ⟨rfl,hb2⟩;replace hb2:=Lib.hid hb2;clear hc;go_wp2
    go_roundg (k%gk)
    case measure=>exact Nat.mod_lt _ (by have:=hg.out;omega)
    case rel =>
     refine⟨gk,rfl,rfl,?_,h5,?_,h6.out.trans (hb2.out.mono hsz)⟩
     · rw[←h3.out,Nat.gcd_comm gk,←Nat.gcd_rec,Nat.gcd_comm]
     · exact Nat.le_trans (size_mono (Nat.le_of_lt (Nat.mod_lt k (by have:=hg.out;omega)))) h5
end Nt
end
section
open Go.RowKit Go.Shelf
namespace Nt
theorem lim_size {n:Nat} (h:n<Lim):(num n).size≤300:=by
 have:=decDigits_len (k:=mxd) h (by rw[mxd_eq];omega);rw[num_size,←mxd_eq];exact this
theorem RefAdd_num (a b:Nat) (w:World) (ha:a<Lim) (hb:b<Lim) (hsz:(num (a+b)).size≤1000) :
 Calls Tryz.prog 115 #[.string (num a),.string (num b)] w fun e w'=>e=.returned (.tuple #[.string (strL (a+b)),.int .i64 (errL (a+b))])∧Below w.heap.size w w':=by
 have c1:=Plus_any a b w (by have:=lim_size ha;omega) (by have:=lim_size hb;omega);have i1:=RefIs_any (num a) w (by have:=lim_size ha;omega);have i2:=RefIs_any (num b) w (by have:=lim_size hb;omega);rw[isN_num ha]at i1;rw[isN_num hb]at i2;have c2:=fun W=>reflimited_any (a+b) W (by omega);go_enter Tryz.func115,Tryz.ntmps115
 go_wp2_with fail
 refine i1.mono ?_;rintro e w' ⟨rfl,rfl⟩
 go_wp2_with fail
 refine i2.mono ?_;rintro e w' ⟨rfl,rfl⟩;clear i1 i2
 go_wp2_with fail
 refine(c1).mono ?_;rintro e w1 ⟨rfl,hb1⟩;replace hb1:=Lib.hid hb1
 go_wp2_with fail
 refine(c2 _).mono ?_;rintro e w2 ⟨rfl,rfl⟩;clear c1 c2;go_wp2;go_ret2;exact⟨rfl,hb1.out⟩
theorem RefGcd_num (a b:Nat) (w:World) (ha:a<Lim) (hb:b<Lim) :
 Calls Tryz.prog 91 #[.string (num a),.string (num b)] w fun e w'=>e=.returned (.tuple #[.string (num (Nat.gcd a b)),.int .i64 0])∧Below w.heap.size w w':=by
 have c1:=Common_any a b w (by have:=lim_size ha;omega) (by have:=lim_size hb;omega);have i1:=RefIs_any (num a) w (by have:=lim_size ha;omega);have i2:=RefIs_any (num b) w (by have:=lim_size hb;omega);rw[isN_num ha]at i1;rw[isN_num hb]at i2;go_enter Tryz.func91,Tryz.ntmps91
 go_wp2_with fail
 refine i1.mono ?_;rintro e w' ⟨rfl,rfl⟩
 go_wp2_with fail
 refine i2.mono ?_;rintro e w' ⟨rfl,rfl⟩;clear i1 i2
 go_wp2_with fail
 refine(c1).mono ?_;rintro e w1 ⟨rfl,hb1⟩;replace hb1:=Lib.hid hb1;clear c1;go_wp2;go_ret2;exact⟨rfl,hb1.out⟩
end Nt
end
end Go.Proofs.YtioidbebjgeahaaGreatDoor

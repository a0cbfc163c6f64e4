/- Texts that the proof needs: RefA, RRef1, BndRFit. -/
import Derived.WalkLawsBesides
import Derived.WalkSpells
import Derived.Deep.OwnRows
import Derived.StillTailTactics
import Derived.RegionTactic
import Derived.Deep.LoopGhost
import Derived.Test.YtilodknkildkbaaGreatDoorKdA
import Derived.Test.YtilodknkildkbaaGreatDoorKdB
import Derived.Test.YtilodknkildkbaaGreatDoorKdC
import Derived.Test.YtilodknkildkbaaGreatDoorKdD
import Derived.Test.YtilodknkildkbaaGreatDoorKdE
import Derived.Test.YtilodknkildkbaaGreatDoorKdF
import Derived.Test.YtilodknkildkbaaGreatDoorKdG
import Derived.Test.YtilodknkildkbaaGreatDoorKdH
import Derived.Test.YtilodknkildkbaaGreatDoorKdI
import Derived.Test.YtilodknkildkbaaGreatDoorKdJ
set_option maxHeartbeats 8000000
set_option maxRecDepth 100000
namespace Go.Proofs.YtilodknkildkbaaGreatDoor
section
open Go.RowKit
namespace Nt
def dgt (l:List UInt8) (i:Nat):Nat:=if h:i<l.length then (l[l.length-1-i]'(by omega)).toNat-48 else 0
theorem Fp (l:List UInt8) (c:UInt8):dgt (l++[c]) 0=c.toNat-48:=by
 unfold dgt;rw[dif_pos (by simp)];simp
theorem Fq (l:List UInt8) (c:UInt8) (i:Nat):dgt (l++[c]) (i+1)=dgt l i:=by
 unfold dgt
 by_cases h:i<l.length
 · rw[dif_pos (by simp;omega),dif_pos h];have e:(l++[c]).length-1-(i+1)=l.length-1-i:=by simp;omega
   simp only[e];rw[List.getElem_append_left (by omega)]
 · rw[dif_neg (by simp;omega),dif_neg h]
theorem Od (n i:Nat):dgt (Lib.decDigits n) i=n/10^i%10:=by
 induction i generalizing n with
 | zero =>
   rw[Lib.decDigits]
   split
   · rw[show ([UInt8.ofNat (48+n)]:List UInt8)=[]++[UInt8.ofNat (48+n)] from rfl,Fp,AX _ (by omega)];simp;omega
   · rw[Fp,AX _ (Nat.mod_lt _ (by omega))];simp
 | succ i ih =>
   rw[Lib.decDigits]
   split
   · rename_i h;rw[show ([UInt8.ofNat (48+n)]:List UInt8)=[]++[UInt8.ofNat (48+n)] from rfl,Fq];have h1:dgt [] i=0:=rfl;have h2:n/10^(i+1)=0:=Nat.div_eq_of_lt (Nat.lt_of_lt_of_le h (by rw[Nat.pow_succ];have:0<10^i:=Nat.pow_pos (by omega);omega));rw[h1,h2]
   · rw[Fq,ih,Nat.pow_succ,Nat.mul_comm,Nat.div_div_eq_div_mul]
theorem W7 (n i:Nat):dgt (Lib.decDigits n) i<10:=by rw[Od];exact Nat.mod_lt _ (by omega)
def dv:List Nat->Nat
 | []=>0
 | x::xs=>x+10*dv xs
theorem PE (xs ys:List Nat):dv (xs++ys)=dv xs+10^xs.length*dv ys:=by
 induction xs with
 | nil=>simp[dv]
 | cons x xs ih =>
   simp only[List.cons_append,dv,ih,List.length_cons,Nat.pow_succ,Nat.mul_add];rw[Nat.mul_comm (10^xs.length) 10,Nat.mul_assoc];omega
theorem Oe (xs:List Nat) (y:Nat):dv (xs++[y])=dv xs+10^xs.length*y:=by rw[PE];simp[dv]
theorem Kj (zs:List Nat) (p y:Nat) (h:p<zs.length):dv (zs.set p y)+10^p*lim zs p=dv zs+10^p*y:=by
 induction zs generalizing p with
 | nil=>simp at h
 | cons z zs ih =>
   cases p with
   | zero=>simp[dv,lim];omega
   | succ p =>
     have:=ih p (by simpa using h);have e:lim (z::zs) (p+1)=lim zs p:=by simp[lim]
     rw[e];simp only[List.set_cons_succ,dv,Nat.pow_succ];rw[Nat.mul_comm (10^p) 10,Nat.mul_assoc,Nat.mul_assoc];omega
theorem SM (n:Nat):dv (List.replicate n 0)=0:=by
 induction n with
 | zero=>rfl
 | succ n ih=>rw[List.replicate_succ,dv,ih]
theorem Wk (zs:List Nat) (p:Nat) (h:p<zs.length):10^p*lim zs p<=dv zs:=by
 have:=Kj zs p 0 h;omega
def Cf (ds:List Nat):List UInt8:=(ds.map fun d=>UInt8.ofNat (48+d)).reverse
theorem D7 (ds:List Nat):(Cf ds).length=ds.length:=by simp[Cf]
theorem Iw {ds:List Nat} (h:∀d∈ds,d<10):∀c∈Cf ds,AE c:=by
 intro c hc;simp only[Cf,List.mem_reverse,List.mem_map]at hc;obtain⟨d,hd,rfl⟩:=hc;have:=h d hd;unfold AE;rw[AX _ this];omega
theorem GS {ds:List Nat} (h:∀d∈ds,d<10):A5 (Cf ds)=dv ds:=by
 induction ds with
 | nil=>rfl
 | cons d ds ih =>
   have e:Cf (d::ds)=Cf ds++[UInt8.ofNat (48+d)]:=by simp[Cf]
   rw[e,Br,ih (fun x hx=>h x (by simp[hx]))];have hd:=h d (by simp);simp only[List.length_cons,List.length_nil,A5,List.foldl_cons,List.foldl_nil,AX d hd,dv];omega
theorem Ur {l:List UInt8} {i:Nat} (hd:∀c∈l,AE c) (hi:i<l.length) (hz:∀j,(h:j<i)->l[j]'(by omega)=48) (he:i+1=l.length∨l[i]≠48) :
 l.drop i=Lib.decDigits (A5 l):=by
 have hv:A5 (l.drop i)=A5 l:=by
  have e:l=List.replicate i 48++l.drop i:=by
   conv=>lhs;rw[<-List.take_append_drop i l]
   congr 1
   apply List.ext_getElem
   · simp;omega
   · intro j h1 h2;simp at h1;simp[hz j (by omega)]
  conv=>rhs;rw[e,Ho]
 rw[<-hv];refine(Du _ _ rfl ?_ (fun c hc=>hd c (List.mem_of_mem_drop hc)) ?_).symm
 · intro h;have:=congrArg List.length h;simp at this;omega
 · rcases he with he | he
   · left;simp;omega
   · right;rw[List.head?_drop,List.getElem?_eq_getElem hi];intro e;exact he (Option.some.inj e)
theorem Iy {a b:Nat} (h:(Lib.decDigits a).length<(Lib.decDigits b).length):a<b:=by
 have h0:0<(Lib.decDigits a).length:=List.length_pos_iff.2 (AK a);have h1:=(AL a _ h0).1 (Nat.le_refl _)
 have h2:¬b<10^(Lib.decDigits a).length:=fun h'=>by
  have:=AI h' h0;omega
 omega
theorem SN:∀{l m:List UInt8},l.length=m.length->(∀c∈l,AE c)->(∀c∈m,AE c)->(Op.bytesLess l m=true↔A5 l<A5 m):=by
 intro l
 induction l with
 | nil =>
   intro m hl _ _;have:m=[]:=List.length_eq_zero_iff.1 hl.symm;subst this;simp[Op.bytesLess]
 | cons a l ih =>
   intro m hl hd he
   cases m with
   | nil=>simp at hl
   | cons b m =>
     have d:l.length=m.length:=by simpa using hl
     have i:=ih d (fun c hc=>hd c (by simp[hc])) (fun c hc=>he c (by simp[hc]));have ha:=hd a (by simp);have hb:=he b (by simp);have h1:=DC (l:=l) (fun c hc=>hd c (by simp[hc]));have h2:=DC (l:=m) (fun c hc=>he c (by simp[hc]));rw[C8,C8,d];rw[d]at h1;generalize 10^m.length=P at *;unfold Op.bytesLess
     rcases Nat.lt_trichotomy a.toNat b.toNat with h | h | h
     · have e:(a<b)=True:=by simp[UInt8.lt_iff_toNat_lt,h]
       have h3:(a.toNat-48+1)*P<=(b.toNat-48)*P:=Nat.mul_le_mul_right _ (by have:=ha.1;omega);rw[Nat.add_mul]at h3;simp only[e,decide_true,Bool.true_or,true_iff];omega
     · obtain rfl:a=b:=UInt8.toNat_inj.1 h;have e:(a<a)=False:=by simp
       simp only[e,decide_false,beq_self_eq_true,Bool.true_and,Bool.false_or,i];omega
     · have e:(a<b)=False:=by simp[UInt8.lt_iff_toNat_lt];omega
       have e2:(a==b)=false:=by rw[beq_eq_false_iff_ne];intro h';subst h';omega
       have h3:(b.toNat-48+1)*P<=(a.toNat-48)*P:=Nat.mul_le_mul_right _ (by have:=hb.1;omega);rw[Nat.add_mul]at h3;simp only[e,e2,decide_false,Bool.false_and,Bool.or_false,Bool.false_eq_true,false_iff];omega
theorem SO {a b:Nat} (h:(Lib.decDigits a).length=(Lib.decDigits b).length):Op.bytesLess (Lib.decDigits a) (Lib.decDigits b)=true↔a<b:=by
 have:=SN h (A7 a) (A7 b)
 rwa [Au,Au]at this
theorem Cc (a i:Nat):a%10^(i+1)=a%10^i+10^i*(a/10^i%10):=by
 rw[Nat.pow_succ,Nat.mod_mul]
theorem Nh {D a b i c:Nat} (h:D+10^i*c=a%10^i+b%10^i) :
 D+10^i*((a/10^i%10+b/10^i%10+c)%10)+10^(i+1)*((a/10^i%10+b/10^i%10+c)/10)=a%10^(i+1)+b%10^(i+1):=by
 rw[Cc,Cc,Nat.pow_succ];generalize a/10^i%10=x;generalize b/10^i%10=y;generalize 10^i=P at *
 have e:P*(x+y+c)=P*((x+y+c)%10)+P*10*((x+y+c)/10):=by
  rw[Nat.mul_assoc,<-Nat.mul_add,Nat.mod_add_div]
 rw[Nat.mul_add,Nat.mul_add]at e;omega
theorem Lw {D a b i c z c':Nat} (h:D+b%10^i=a%10^i+10^i*c) (e:z+b/10^i%10+c=a/10^i%10+10*c') :
 D+10^i*z+b%10^(i+1)=a%10^(i+1)+10^(i+1)*c':=by
 rw[Cc,Cc,Nat.pow_succ];generalize a/10^i%10=x at *;generalize b/10^i%10=y at *;generalize 10^i=P at *
 have e2:P*z+P*y+P*c=P*x+P*10*c':=by
  rw[Nat.mul_assoc,<-Nat.mul_add,<-Nat.mul_add,<-Nat.mul_add,e]
 omega
theorem Us {a i:Nat} (h:(Lib.decDigits a).length<=i):a%10^i=a:=by
 have h0:0<(Lib.decDigits a).length:=List.length_pos_iff.2 (AK a);exact Nat.mod_eq_of_lt ((AL a i (by omega)).1 h)
end Nt
end
section
open Go.RowKit Go.Shelf
namespace Nt
theorem Gg {a b:ByteArray} (h:a=b):Ending.returned (.string a)=.returned (.string b):=by rw[h]
theorem DJ {a b:Int} (h:a=b):Ending.returned (.int .i64 a)=.returned (.int .i64 b):=by rw[h]
theorem GT {a b:Bool} (h:a=b):Ending.returned (.bool a)=.returned (.bool b):=by rw[h]
theorem Jz {a b:ByteArray} (h:a.data.toList=b.data.toList):a=b:=by
 obtain⟨a⟩:=a;obtain⟨b⟩:=b;exact congrArg ByteArray.mk (Array.toList_inj.1 h)
theorem Bl (n:Nat):(num n).data.toList=Lib.decDigits n:=rfl
theorem BL (n:Nat):(num n).size=(Lib.decDigits n).length:=by simp[num,ByteArray.size]
@[irreducible] def dch (d:Nat):UInt8:=UInt8.ofNat (48+d)
theorem Ni (d:Nat):dch d=UInt8.ofNat (48+d):=by unfold dch;rfl
def DgRel (N m:Nat) (t:ByteArray):Prop:=(if m=0 then [] else Lib.decDigits m)++t.data.toList=Lib.decDigits N
theorem DgRel.start (N:Nat):DgRel N (N/10) ⟨#[UInt8.ofNat (48+N%10)]⟩:=by
 unfold DgRel
 conv=>rhs;rw[Lib.decDigits]
 split
 · rename_i h;rw[dif_pos (by omega)];simp
   congr 2;omega
 · rename_i h;rw[dif_neg (by omega)]
theorem DgRel.step {N m:Nat} {t:ByteArray} (h:DgRel N m t) (hm:0<m):DgRel N (m/10) (⟨#[UInt8.ofNat (48+m%10)]⟩++t):=by
 have h2:=DgRel.start m;unfold DgRel at *;rw[if_neg (by omega),<-h2]at h;rw[<-h];simp
theorem DgRel.done {N:Nat} {t:ByteArray} (h:DgRel N 0 t):t=num N:=Jz (by unfold DgRel at h;simpa [num] using h)
theorem DgRel.size {N m:Nat} {t:ByteArray} (h:DgRel N m t) (hN:N<18446744073709551616):t.size<=20:=by
 have h1:=AI (k:=20) (u:=N) (by omega) (by omega);have h2:=congrArg List.length h;have h3:t.size=t.data.toList.length:=Lib.size_eq _;rw[List.length_append]at h2;omega
theorem Fr (d:Nat) (h:d<10) (w:World) :
 (Instr.slice 9 (.string ⟨#[48,49,50,51,52,53,54,55,56,57]⟩) (some (.int .u64 (d:Int))) (some (.int .u64 ((d:Int)+1))) none).run Tryz.prog w=.ok (.string ⟨#[dch d]⟩) w:=by
 rw[Ni];obtain rfl | rfl | rfl | rfl | rfl | rfl | rfl | rfl | rfl | rfl:d=0∨d=1∨d=2∨d=3∨d=4∨d=5∨d=6∨d=7∨d=8∨d=9:=by omega
 all_goals kernel_rfl
theorem Nj (n:Nat) (w:World) (hn:n<18446744073709551616) :
 Calls Tryz.prog 180 #[.int .u64 (n:Int)] w fun e w'=>e=.returned (.string (num n))/\w=w':=by
 obtain⟨d,hd⟩:∃d,d=n%10:=⟨_,rfl⟩;have h:d<10:=by omega
 have aa:(n:Int)%10=(d:Int):=by omega
 have a:=Fr d h;have HD:=zh hd;clear hd;go_enter Tryz.func180,Tryz.ntmps180;go_wp2;clear aa a
 go_loop [0,3] (fun m t=>∃(k:Nat) (s:ByteArray),m=.int .u64 (k:Int)/\t=.string s/\k<=n/\DgRel n k s) (fun m _=>(intOf m).toNat)
 case atStart=>exact⟨n/10,_,by first | rfl | (congr 1;omega),rfl,Nat.div_le_self _ _,by rw[Ni,HD.out];exact DgRel.start n⟩
 case round =>
  obtain⟨k,s,rfl,rfl,hk,hr⟩:=hrel
  by_cases h0:k=0
  · subst h0;have hs:=zh hr.done;clear hr;go_wp2;go_ret;exact⟨Gg hs.out,rfl⟩
  · obtain⟨d,hd⟩:∃d,d=k%10:=⟨_,rfl⟩;have h:d<10:=by omega
    have aa:(k:Int)%10=(d:Int):=by omega
    have a:=Fr d h;have HD:=zh hd;have hz:=hr.size hn;have ad:(0:Int)<(k:Int):=by omega
    replace hr:=zh hr;clear hd;go_wp2;go_round
    case rel=>exact⟨k/10,_,by first | rfl | (congr 1;omega),rfl,by omega,by rw[Ni,HD.out];exact hr.out.step (by omega)⟩
    case measure=>simp[intOf];omega
theorem DK (n:Nat) (w:World) (hn:n<=9223372036854775807) :
 Calls Tryz.prog 151 #[.int .i64 (n:Int)] w fun e w'=>e=.returned (.string (num n))/\w=w':=by
 go_enter Tryz.func151,Tryz.ntmps151
 go_wp2_with (go_at_call 180;refine(Nj n _ (by omega)).mono ?_;rintro e w' ⟨rfl,rfl⟩)
 go_ret;exact⟨rfl,rfl⟩
def G7 (l:List UInt8):Bool:=l.all (fun c=>decide (48<=c.toNat/\c.toNat<=57))&&(decide (l.length=1)||(decide (1<l.length)&&decide (l.head?≠some 48)))
theorem SP (s:ByteArray):isN s=(decide (s.size<=300)&&G7 s.data.toList):=by
 have hz:s.size=s.data.toList.length:=Lib.size_eq _;unfold isN Qf G7;rw[hz];generalize s.data.toList=l
 cases l with
 | nil=>rfl
 | cons a l =>
   cases l with
   | nil=>simp
   | cons b l=>simp
theorem SS {l:List UInt8} {k:Nat} (h:k<l.length) (hb:¬AE l[k]):G7 l=false:=by
 unfold G7
 have:l.all (fun c=>decide (48<=c.toNat/\c.toNat<=57))=false:=by
  rw[List.all_eq_false];exact⟨l[k],List.getElem_mem h,by simpa [AE] using hb⟩
 rw[this,Bool.false_and]
theorem PF {l:List UInt8} (h:∀c∈l,AE c):G7 l=(decide (l.length=1)||(decide (1<l.length)&&decide (l.head?≠some 48))):=by
 unfold G7
 have:l.all (fun c=>decide (48<=c.toNat/\c.toNat<=57))=true:=by
  rw[List.all_eq_true];intro c hc
  simpa [AE] using h c hc
 rw[this,Bool.true_and]
theorem Lx (s:ByteArray) (w:World) (hs:s.size<=140737488355328) :
 Calls Tryz.prog 149 #[.string s] w fun e w'=>e=.returned (.bool (G7 s.data.toList))/\w=w':=by
 have hz:s.data.toList.length=s.size:=(Lib.size_eq _).symm;have HZ:=zh hz;clear hz;go_enter Tryz.func149,Tryz.ntmps149;go_wp2
 go_loop [3] (fun i=>∃k:Nat,k<=s.size/\i=.int .i64 (k:Int)/\Hid (∀j (h:j<s.size),j<k->AE (s[j]))) (fun i=>s.size-(intOf i).toNat)
 case atStart=>exact⟨0,Nat.zero_le _,rfl,fun j _ h=>absurd h (by omega)⟩
 case round =>
  obtain⟨k,hk,rfl,hd⟩:=hrel
  by_cases hlt:k<s.size
  · have hb:Hid (¬AE s[k]->G7 s.data.toList=false):=fun h=>SS (k:=k) (by have:=HZ.out;omega) h
    by_cases h1:(s[k].toNat:Int)<48
    · go_wp2;go_ret;exact⟨GT (hb.out (fun h=>by have:=h.1;omega)).symm,rfl⟩
    · by_cases h2:(57:Int)<(s[k].toNat:Int)
      · go_wp2;go_ret;exact⟨GT (hb.out (fun h=>by have:=h.2;omega)).symm,rfl⟩
      · go_wp2;go_round
        case rel =>
         refine⟨k+1,by omega,by go_num,fun j h hj=>?_⟩
         by_cases e:j=k
         · subst e;exact⟨by omega,by omega⟩
         · exact hd.out j h (by omega)
        case measure=>simp[intOf];omega
  · have hG:=zh (PF (l:=s.data.toList) (fun c hc=>by
     obtain⟨j,hj,rfl⟩:=List.getElem_of_mem hc;exact hd.out j (by have:=HZ.out;omega) (by have:=HZ.out;omega)))
    have hl:=HZ.out
    by_cases e1:s.size=1
    · have f1:((s.size:Int)==1)=true:=by simp[e1]
      have hv:G7 s.data.toList=true:=by rw[hG.out,hl,e1];rfl
      have HV:=zh hv;clear hl hv e1;go_wp2;go_ret;exact⟨GT HV.out.symm,rfl⟩
    · have f1:((s.size:Int)==1)=false:=by rw[beq_eq_false_iff_ne];omega
      by_cases e0:s.size=0
      · have hv:G7 s.data.toList=false:=by rw[hG.out,hl,e0];rfl
        have HV:=zh hv;have f2:decide ((1:Int)<(s.size:Int))=false:=by simp;omega
        clear hl hv e1 e0;go_wp2;go_ret;exact⟨GT HV.out.symm,rfl⟩
      · have hp:1<s.size:=by omega
        have a:0<s.size:=by omega
        have hv:G7 s.data.toList=decide ((s[0].toNat:Int)≠48):=by
         rw[hG.out,hl,decide_eq_false e1,decide_eq_true hp,Bool.false_or,Bool.true_and]
         have e:s.data.toList.head? = some s[0]:=by
          rw[List.head?_eq_getElem?,List.getElem?_eq_getElem (by omega)];rfl
         rw[e]
         have key:(¬some s[0]=some (48:UInt8))↔¬((s[0].toNat:Int)=48):=by
          rw[Option.some.injEq,<-UInt8.toNat_inj];have:(48:UInt8).toNat=48:=rfl;omega
         exact decide_eq_decide.2 key
        have HV:=zh hv
        by_cases h48:(s[0].toNat:Int)=48
        · have f3:((s[0].toNat:Int)==48)=true:=by rw[beq_iff_eq];exact h48
          have f4:((s[0].toNat:Int) != 48)=false:=by simp[h48]
          have HW:Hid (G7 s.data.toList=false):=by unfold Hid;rw[HV.out];simp[h48]
          clear hl hv e1 e0 h48;go_wp2;go_ret;exact⟨GT HW.out.symm,rfl⟩
        · have f3:((s[0].toNat:Int)==48)=false:=by rw[beq_eq_false_iff_ne];exact h48
          have f4:((s[0].toNat:Int) != 48)=true:=by simp[h48]
          have HW:Hid (G7 s.data.toList=true):=by unfold Hid;rw[HV.out];simp[h48]
          clear hl hv e1 e0 h48;go_wp2;go_ret;exact⟨GT HW.out.symm,rfl⟩
theorem Cd (s:ByteArray) (w:World) (hs:s.size<=140737488355328) :
 Calls Tryz.prog 109 #[.string s] w fun e w'=>e=.returned (.bool (isN s))/\w=w':=by
 have HN:=zh (SP s)
 by_cases h:s.size<=300
 · rw[decide_eq_true h,Bool.true_and]at HN;have h':(s.size:Int)<=300:=by omega
   go_enter Tryz.func109,Tryz.ntmps109
   go_wp2_with (go_at_call 149;refine(Lx s _ hs).mono ?_;rintro e w' ⟨rfl,rfl⟩)
   go_ret;exact⟨GT HN.out.symm,rfl⟩
 · rw[decide_eq_false h,Bool.false_and]at HN;have h':decide ((s.size:Int)<=300)=false:=by simp;omega
   go_enter Tryz.func109,Tryz.ntmps109;go_wp2;go_ret;exact⟨GT HN.out.symm,rfl⟩
theorem Ff (a b:Nat) (w:World) (_ha:(num a).size<=140737488355328) (_hb:(num b).size<=140737488355328) :
 Calls Tryz.prog 150 #[.string (num a),.string (num b)] w fun e w'=>e=.returned (.int .i64 (Bm a b))/\w=w':=by
 have ea:=BL a;have eb:=BL b
 rcases Nat.lt_trichotomy (num a).size (num b).size with h | h | h
 · have d:a<b:=Iy (by omega);have HC:=zh (Cv d);clear ea eb d;go_enter Tryz.func150,Tryz.ntmps150;go_wp2;go_ret;exact⟨DJ HC.out.symm,rfl⟩
 · have f1:decide ((num a).size<(num b).size)=false:=by simp;omega
   have f2:(((num a).size:Int)==((num b).size:Int))=true:=by simp[h]
   have aa:Op.bytesLess (num a).toList (num b).toList=decide (a<b):=by
    rw[Lib.toList_data,Lib.toList_data,Bl,Bl,Bool.eq_iff_iff,SO (by omega)];simp
   have hq:((num a).toList==(num b).toList)=decide (a=b):=by
    rw[Lib.toList_data,Lib.toList_data,Bl,Bl,Bool.eq_iff_iff,beq_iff_eq,decide_eq_true_iff];constructor
    · intro e;have:=congrArg A5 e
      rwa [Au,Au]at this
    · intro e;rw[e]
   rcases Nat.lt_trichotomy a b with d | d | d
   · rw[decide_eq_true d]at aa;have HC:=zh (Cv d);clear ea eb h d hq;go_enter Tryz.func150,Tryz.ntmps150;go_wp2;go_ret;exact⟨DJ HC.out.symm,rfl⟩
   · rw[decide_eq_false (by omega)]at aa;rw[decide_eq_true d]at hq;have HC:Hid (Bm a b=0):=by unfold Hid;rw[d];exact J8 b
     clear ea eb h d;go_enter Tryz.func150,Tryz.ntmps150;go_wp2;go_ret;exact⟨DJ HC.out.symm,rfl⟩
   · rw[decide_eq_false (by omega)]at aa;rw[decide_eq_false (by omega)]at hq;have HC:Hid (Bm a b=1):=by unfold Hid Bm;simp[d,Nat.lt_asymm d]
     clear ea eb h d;go_enter Tryz.func150,Tryz.ntmps150;go_wp2;go_ret;exact⟨DJ HC.out.symm,rfl⟩
 · have d:b<a:=Iy (by omega);have f1:decide ((num a).size<(num b).size)=false:=by simp;omega
   have f2:(((num a).size:Int)==((num b).size:Int))=false:=by rw[beq_eq_false_iff_ne];omega
   have hq:((num a).toList==(num b).toList)=false:=by
    rw[beq_eq_false_iff_ne,Lib.toList_data,Lib.toList_data];intro e;have:=congrArg List.length e;rw[Bl,Bl]at this;omega
   have HC:Hid (Bm a b=1):=by unfold Hid Bm;simp[d,Nat.lt_asymm d]
   clear ea eb d;go_enter Tryz.func150,Tryz.ntmps150;go_wp2;go_ret;exact⟨DJ HC.out.symm,rfl⟩
theorem Gh {l:List UInt8} (h:∀c∈l,AE c) (k:Nat):A5 (l.take k)<10^k:=by
 have h1:=DC (l:=l.take k) (fun c hc=>h c (List.mem_of_mem_take hc));exact Nat.lt_of_lt_of_le h1 (Nat.pow_le_pow_right (by omega) (by simp;omega))
theorem EO (s:ByteArray) (k:Nat) (h:k<s.size):A5 (s.data.toList.take (k+1))=A5 (s.data.toList.take k)*10+(s[k].toNat-48):=by
 rw[List.take_succ_eq_append_getElem (by simpa using h),Br];simp[A5];rfl
theorem PG (s:ByteArray) (w:World) (hs:s.size<=18) (hd:∀c∈s.data.toList,AE c) :
 Calls Tryz.prog 152 #[.string s] w fun e w'=>e=.returned (.int .i64 (A5 s.data.toList:Nat))/\w=w':=by
 have HD:=zh hd;clear hd;go_enter Tryz.func152,Tryz.ntmps152;go_wp2
 go_loop [3,4] (fun n i=>∃k v:Nat,k<=s.size/\i=.int .i64 (k:Int)/\n=.int .i64 (v:Int)/\Hid (v=A5 (s.data.toList.take k))) (fun _ i=>s.size-(intOf i).toNat)
 case atStart=>exact⟨0,0,Nat.zero_le _,rfl,rfl,rfl⟩
 case round =>
  obtain⟨k,v,hk,rfl,rfl,hv⟩:=hrel
  by_cases hlt:k<s.size
  · have hb:v<100000000000000000:=by
     have h1:=Gh HD.out k;have h2:10^k<=10^17:=Nat.pow_le_pow_right (by omega) (by omega);have:=hv.out;omega
    have a:AE s[k]:=HD.out _ (by
     have:s[k]=s.data.toList[k]'(by simpa using hlt):=rfl;rw[this];exact List.getElem_mem _)
    have d:(48:Int)<=(s[k].toNat:Int):=by have:=a.1;omega
    have h:(s[k].toNat:Int)<=57:=by have:=a.2;omega
    have HS:=zh (EO s k hlt);clear a;go_wp2;go_round
    case rel=>exact⟨k+1,v*10+(s[k].toNat-48),by omega,by go_num,by go_num,by unfold Hid;rw[HS.out,<-hv.out]⟩
    case measure=>simp[intOf];omega
  · obtain rfl:k=s.size:=by omega
    have e:s.data.toList.take s.size=s.data.toList:=List.take_of_length_le (by simp);rw[e]at hv;go_wp2;go_ret;exact⟨DJ (by rw[hv.out]),rfl⟩
theorem Dt (n:Nat) (w:World) (hs:(num n).size<=18) :
 Calls Tryz.prog 152 #[.string (num n)] w fun e w'=>e=.returned (.int .i64 (n:Nat))/\w=w':=by
 have:=PG (num n) w hs (by rw[Bl];exact A7 n)
 rwa [Bl,Au]at this
theorem EP (s:ByteArray) (w:World) (hs:s.size<=140737488355328) (h0:0<s.size) (hd:∀c∈s.data.toList,AE c) :
 Calls Tryz.prog 153 #[.string s] w fun e w'=>e=.returned (.string (num (A5 s.data.toList)))/\w=w':=by
 have HD:=zh hd;have HZ:Hid (s.data.toList.length=s.size):=(Lib.size_eq _).symm;clear hd;go_enter Tryz.func153,Tryz.ntmps153;go_wp2
 go_loop [3] (fun i=>∃k:Nat,k<s.size/\i=.int .i64 (k:Int)/\Hid (∀j (h:j<s.data.toList.length),j<k->s.data.toList[j]=48)) (fun i=>s.size-(intOf i).toNat)
 case atStart=>exact⟨0,h0,rfl,fun j _ h=>absurd h (by omega)⟩
 case round =>
  obtain⟨k,hk,rfl,hz⟩:=hrel
  have a:Hid (k+1=s.size∨s[k]≠48->s.extract k s.size=num (A5 s.data.toList)):=fun h=>by
   apply Jz;rw[Lib.extract_to_end,Bl];have d:=HZ.out;refine Ur HD.out (i:=k) (by omega) (fun j hj=>hz.out j (by omega) hj) ?_
   rcases h with h | h
   · left;omega
   · right;exact h
  by_cases he:k+1=s.size
  · have f1:decide ((k:Int)<(s.size:Int)-1)=false:=by simp;omega
    have HE:=zh he;clear he;go_wp2;go_ret;exact⟨Gg (a.out (.inl HE.out)),rfl⟩
  · have hl:(k:Int)<(s.size:Int)-1:=by omega
    clear he
    by_cases h48:s[k]=48
    · have hc:(s[k].toNat:Int)=48:=by rw[h48];rfl
      have f2:((s[k].toNat:Int)==48)=true:=by rw[beq_iff_eq];exact hc
      have H48:=zh h48;clear hc h48;go_wp2;go_round
      case rel =>
       refine⟨k+1,by omega,by go_num,fun j h hj=>?_⟩
       by_cases e:j=k
       · subst e;exact H48.out
       · exact hz.out j h (by omega)
      case measure=>simp[intOf];omega
    · have f2:((s[k].toNat:Int)==48)=false:=by
       rw[beq_eq_false_iff_ne];intro e;apply h48;apply UInt8.toNat_inj.1;have:(48:UInt8).toNat=48:=rfl;omega
      have H48:=zh h48;clear h48;go_wp2;go_ret;exact⟨Gg (a.out (.inr H48.out)),rfl⟩
theorem Ek (n i:Nat) (w:World) (hs:(num n).size<=140737488355328) (hi:i<=140737488355328) :
 Calls Tryz.prog 155 #[.string (num n),.int .i64 (i:Int)] w fun e w'=>e=.returned (.int .i64 ((n/10^i%10:Nat):Int))/\w=w':=by
 have hd:Hid (n/10^i%10=dgt (Lib.decDigits n) i):=(Od n i).symm;have hz:Hid ((num n).size=(Lib.decDigits n).length):=BL n;generalize hv:n/10^i%10=v at hd
 by_cases h:i<(num n).size
 · have hj:((num n).size:Int)-1-(i:Int)=(((num n).size-1-i:Nat):Int):=by omega
   have aa:(num n).size-1-i<(num n).size:=by omega
   have d:AE ((num n)[(num n).size-1-i]):=A7 n _ (by
    have:(num n)[(num n).size-1-i]=(num n).data.toList[(num n).size-1-i]'(by simpa using aa):=rfl;rw[this];exact List.getElem_mem _)
   have a:Hid (v=(num n)[(num n).size-1-i].toNat-48):=by
    unfold Hid;rw[hd.out,dgt,dif_pos (by have:=hz.out;omega)]
    congr 2
   have ad:(48:Int)<=((num n)[(num n).size-1-i].toNat:Int):=by have:=d.1;omega
   have ae:((num n)[(num n).size-1-i].toNat:Int)<=57:=by have:=d.2;omega
   clear d hv;go_enter Tryz.func155,Tryz.ntmps155;go_wp2;go_ret;exact⟨DJ (by rw[a.out];omega),rfl⟩
 · have a:Hid (v=0):=by
    unfold Hid;rw[hd.out,dgt,dif_neg (by have:=hz.out;omega)]
   clear hv;go_enter Tryz.func155,Tryz.ntmps155;go_wp2;go_ret;exact⟨DJ (by rw[a.out];rfl),rfl⟩
theorem EQ (k:Nat) (w:World) (_hs:(num k).size<=140737488355328) :
 Calls Tryz.prog 112 #[.string (num k)] w fun e w'=>e=.returned (.tuple #[.string (Fh k),.int .i64 (Fi k)])/\w=w':=by
 have hz:=BL k
 have h:300<(num k).size↔¬k<Lim:=by
  have e:(Lib.decDigits k).length<=300↔k<Lim:=by
   have:=AL k mxd (by rw[C9];omega);rw[<-C9];exact this
  omega
 have HG:Hid ((k<Lim->Fh k=num k/\Fi k=0)/\(¬k<Lim->Fh k=⟨#[]⟩/\Fi k=2)):=by
  unfold Hid Fh Fi;exact⟨fun h=>by rw[if_pos h,if_pos h];exact⟨rfl,rfl⟩,fun h=>by rw[if_neg h,if_neg h];exact⟨rfl,rfl⟩⟩
 by_cases hk:k<Lim
 · have f:decide ((300:Int)<((num k).size:Int))=false:=by simp;have:=(not_congr h).2 (by simpa using hk);omega
   have HK:=HG.out.1 hk;replace HK:=zh HK;clear hz h hk HG;go_enter Tryz.func112,Tryz.ntmps112;go_wp2;go_ret2;exact⟨by rw[HK.out.1,HK.out.2];rfl,rfl⟩
 · have f:(300:Int)<((num k).size:Int):=by have:=h.2 hk;omega
   have HK:=HG.out.2 hk;replace HK:=zh HK;clear hz h hk HG;go_enter Tryz.func112,Tryz.ntmps112;go_wp2;go_ret2;exact⟨by rw[HK.out.1,HK.out.2];rfl,rfl⟩
end Nt
end
section
open Go.RowKit Go.Shelf
namespace Nt
theorem If:(Tryz.prog.info? 3).map (fun i=>(i.zero,i.size,i.bytes))=some (some (.int .i64 0),1,8):=by kernel_rfl
def CV (ds:List Nat):List Value:=ds.map fun d:Nat=>Value.int .i64 (d:Int)
theorem Iz (ds:List Nat) (d:Nat):CV ds++[Value.int .i64 (d:Int)]=CV (ds++[d]):=by simp[CV]
def OwnI (B:Nat) (w:World) (v:Value) (ds:List Nat):Prop:=w.ownsRow B 3 1 v ds.length (CV ds)
def Nk (w:World) (v:Value) (ds:List Nat):Prop :=
 ∃g off cap,v=.slice (some ⟨g,off,none⟩) ds.length cap/\g<w.heap.size/\∀i,i<ds.length->w.cell? ⟨g,off+i,none⟩=some (.int .i64 (lim ds i))
theorem OwnI.at {B:Nat} {w:World} {v:Value} {ds:List Nat} (h:OwnI B w v ds) (h0:ds≠[]):Nk w v ds:=by
 rcases id h.2 with⟨rfl,hx⟩ | ⟨g,cap,cur,rfl,hg,hh,hn,a,d,ht⟩
 · exact absurd (List.length_eq_zero_iff.1 hx) h0
 · refine⟨g,0,cap,rfl,(Array.getElem?_eq_some_iff.1 hh).1,fun i hi=>?_⟩;rw[Nat.zero_add,World.ownsRow.cellAt h i (by omega)];simp[CV,lim,hi]
def RfRow (w:World) (g:Nat) (bs:List UInt8):Prop:=w.heap[g]? = some (.cells (bs.map fun c:UInt8=>Value.int .u8 (c.toNat:Int)).toArray 5 (0,0))
theorem RfRow.frozen {w:World} {g:Nat} {bs:List UInt8} (h:RfRow w g bs) (i:Nat):w.frozen? ⟨g,i,none⟩=false:=by
 unfold RfRow at h;simp[World.frozen?,h]
theorem RfRow.cell {w:World} {g:Nat} {bs:List UInt8} (h:RfRow w g bs) {i:Nat} (hi:i<bs.length):w.cell? ⟨g,i,none⟩=some (.int .u8 (bs[i].toNat:Int)):=by
 unfold RfRow at h;simp only[World.cell?,h];simp[hi]
theorem RfRow.set {w:World} {g:Nat} {bs:List UInt8} (h:RfRow w g bs) (i:Nat) (c:UInt8):RfRow (w.setCell ⟨g,i,none⟩ (.int .u8 (c.toNat:Int))) g (bs.set i c):=by
 unfold RfRow at h ⊢;simp only[World.setCell,Array.getElem?_modify,h];simp[List.map_set]
theorem PH (n:Nat):madeCells #[.int .u8 0] n=((List.replicate n (0:UInt8)).map fun c:UInt8=>Value.int .u8 (c.toNat:Int)).toArray:=by
 unfold madeCells;apply Array.ext
 · simp
 · intro i h1 h2;have e:i%1=0:=Nat.mod_one i;simp[e]
theorem RfRow.made0 (w:World) (n:Nat):RfRow (w.alloc (.cells (madeCells #[.int .u8 0] n) 5)) w.heap.size (List.replicate n 0):=by
 unfold RfRow;rw[heap_alloc_new,PH]
theorem RfRow.text {w:World} {g:Nat} {bs:List UInt8} (h:RfRow w g bs):(convert 150 9 (.slice (some ⟨g,0,none⟩) bs.length bs.length)).run Tryz.prog w=.ok (.string ⟨bs.toArray⟩) w:=by
 have:=run_convert_bytes_arg (P:=Tryz.prog) w 150 5 Tryz.underlying150 Tryz.underlying5 g 0 bs.length bs.length (bs.map fun c=>(c.toNat:Int)) (by simp)
  (fun i hi=>by rw[Nat.zero_add,h.cell hi];simp[hi]) 9 Tryz.underlying9
 rw[this]
 have e:(bs.map ((fun n:Int=>UInt8.ofNat n.toNat) ∘ fun c:UInt8=>(c.toNat:Int)))=bs:=by
  conv=>rhs;rw[<-List.map_id bs]
  exact List.map_congr_left fun c _=>by simp
 simp only[strOfNums,List.map_map,e]
theorem I0 (n:Nat) (hn:n<=1000000) (w:World) :
 (Instr.makeSlice 150 (.int .i64 (n:Int)) (.int .i64 (n:Int))).run Tryz.prog w =
   .ok (.slice (some ⟨w.heap.size,0,none⟩) n n) (w.alloc (.cells (madeCells #[.int .u8 0] n) 5)) :=
 run_make_row' 150 5 (.int .u8 0) 1 Tryz.underlying150 UG rfl .i64 .i64 n (by omega) (by omega) w
def ER (ds:List Nat) (k:Nat):List UInt8:=List.replicate (ds.length-k) 0++Cf (ds.take k)
theorem PI (ds:List Nat) (k:Nat) (h:k<=ds.length):(ER ds k).length=ds.length:=by simp[ER,D7];omega
theorem Nl (ds:List Nat):ER ds 0=List.replicate ds.length 0:=by simp[ER,Cf]
theorem PJ (ds:List Nat):ER ds ds.length=Cf ds:=by simp[ER]
theorem Ly (ds:List Nat) (d:Nat):Cf (ds++[d])=UInt8.ofNat (48+d)::Cf ds:=by simp[Cf]
theorem Nm (ds:List Nat) (k:Nat) (h:k<ds.length):(ER ds k).set (ds.length-1-k) (UInt8.ofNat (48+lim ds k))=ER ds (k+1):=by
 unfold ER;rw[List.take_succ_eq_append_getElem h,Ly,DM _ _ h];have e:ds.length-k=(ds.length-(k+1))+1:=by omega
 rw[e,List.replicate_succ',List.append_assoc];have e2:ds.length-1-k=(List.replicate (ds.length-(k+1)) (0:UInt8)).length:=by simp;omega
 rw[e2,List.set_append_right _ _ (Nat.le_refl _)];simp
def Ut (w:World) (ds:List Nat) (k:Nat) (wr:World):Prop:=RfRow wr w.heap.size (ER ds k)/\Below w.heap.size w wr
theorem ES (w:World) (v:Value) (ds:List Nat) (h:Nk w v ds) (h0:0<ds.length) (hl:ds.length<=100000) (hd:∀d∈ds,d<10) :
 Calls Tryz.prog 156 #[v] w fun e w'=>e=.returned (.string (num (dv ds)))/\Below w.heap.size w w':=by
 obtain⟨g,off,cap,rfl,hg,hc⟩:=h;have a:=I0 ds.length (by omega);have HD:=zh hd;have HC:=zh hc;have HV:Hid (A5 (Cf ds)=dv ds):=GS hd;clear hd hc;go_enter Tryz.func156,Tryz.ntmps156;go_wp2
 go_loopw [4] (fun i wr=>∃k:Nat,k<=ds.length/\i=.int .i64 (k:Int)/\Ut w ds k wr) (fun i _=>ds.length-(intOf i).toNat)
 case atStart=>exact⟨0,Nat.zero_le _,rfl,by rw[Nl];exact RfRow.made0 _ _,(Below.refl _ _).alloc (Nat.le_refl _) _⟩
 case round =>
  obtain⟨k,hk,rfl,z1,z2⟩:=hrel;have ah:=z2.size
  by_cases hlt:k<ds.length
  · have ae:=(z2.cell (p:=⟨g,off+k,none⟩) hg).trans (HC.out k hlt);have ad:lim ds k<10:=by rw[DM _ _ hlt];exact HD.out _ (List.getElem_mem _)
    have hj:(ds.length:Int)-1-(k:Int)=((ds.length-1-k:Nat):Int):=by omega
    have ag:ds.length-1-k<ds.length:=by omega
    have aa:=z1.cell (i:=ds.length-1-k) (by rw[PI _ _ hk];omega);have af:=z1.frozen (ds.length-1-k)
    have HS:Hid (RfRow (wr.setCell ⟨w.heap.size,ds.length-1-k,none⟩ (.int .u8 (48+(lim ds k:Int)))) w.heap.size (ER ds (k+1))):=by
     have:=z1.set (ds.length-1-k) (UInt8.ofNat (48+lim ds k));rw[Nm _ _ hlt,AX _ ad]at this;have e:((48+lim ds k:Nat):Int)=48+(lim ds k:Int):=by omega
     rw[e]at this;exact this
    replace z2:=zh z2;clear z1 a;go_wp2
    go_roundw
    case rel=>exact⟨k+1,by omega,by go_num,HS.out,z2.out.setCell (Nat.le_refl _) _⟩
    case measure=>simp[intOf];omega
  · obtain rfl:k=ds.length:=by omega
    rw[PJ]at z1;have ht:=z1.text;rw[D7]at ht;replace z2:=zh z2;clear z1 a
    go_wp2_with fail
    refine(EP ⟨(Cf ds).toArray⟩ _ (by have:=D7 ds;simp[ByteArray.size];omega) (by have:=D7 ds;simp[ByteArray.size];omega) (by simpa using Iw HD.out)).mono ?_;rintro e w' ⟨rfl,rfl⟩;go_wp2;go_ret;exact⟨Gg (by rw[<-HV.out]),z2.out⟩
end Nt
end
section
open Go.RowKit Go.Shelf
namespace Nt
theorem Wl {ds:List Nat} (h:∀d∈ds,d<10):dv ds<10^ds.length:=by
 rw[<-GS h];have:=DC (Iw h)
 rwa [D7]at this
theorem Bw (n:Nat):n<10^(num n).size:=by
 rw[BL];exact(AL n _ (List.length_pos_iff.2 (AK n))).1 (Nat.le_refl _)
theorem Gi (n:Nat):0<(num n).size:=by rw[BL];exact List.length_pos_iff.2 (AK n)
theorem El {a b:Nat} (h:a<=b):(num a).size<=(num b).size:=by
 have h1:=Bw b;have h2:=Gi b;rw[BL a];exact AI (Nat.lt_of_le_of_lt h h1) h2
theorem Lz {a k:Nat} (h:(num a).size<=k):a%10^k=a:=Us (by rw[BL]at h;exact h)
theorem L0 {ds:List Nat} {d:Nat} (h:∀x∈ds,x<10) (hd:d<10):∀x∈ds++[d],x<10:=by
 intro x hx
 rcases List.mem_append.1 hx with h1 | h1
 · exact h x h1
 · simp at h1;omega
def Of (w:World) (a b:Nat) (k c:Nat) (v:Value) (wr:World):Prop :=
 ∃ds,ds.length=k/\(∀d∈ds,d<10)/\OwnI w.heap.size wr v ds/\dv ds+10^k*c=a%10^k+b%10^k/\Below w.heap.size w wr
theorem ST {D a b M c:Nat} (h:D+10^(M+1)*c=a%10^(M+1)+b%10^(M+1)) (ha:a<10^M) (hb:b<10^M):D=a+b:=by
 have e:10^(M+1)=10^M*10:=Nat.pow_succ ..;rw[Nat.mod_eq_of_lt (by omega),Nat.mod_eq_of_lt (by omega)]at h
 rcases Nat.eq_zero_or_pos c with h0 | h0
 · subst h0;omega
 · have:10^(M+1)*1<=10^(M+1)*c:=Nat.mul_le_mul_left _ h0;omega
theorem SU (a b:Nat) (w:World) (ha:(num a).size<=10000) (hb:(num b).size<=10000) (aa:¬((num a).size<=18/\(num b).size<=18)) :
 Calls Tryz.prog 159 #[.string (num a),.string (num b)] w fun e w'=>e=.returned (.string (num (a+b)))/\Below w.heap.size w w':=by
 obtain⟨i0,hi,ah,ai,aj⟩:=info_parts If;obtain⟨M,hM⟩:∃M,M=max (num a).size (num b).size:=⟨_,rfl⟩;have an:max ((num a).size:Int) ((num b).size:Int)=(M:Int):=by omega
 have al:M<=10000:=by omega
 have HA:Hid (a<10^M/\b<10^M):=⟨Nat.lt_of_lt_of_le (Bw a) (Nat.pow_le_pow_right (by omega) (by omega)),Nat.lt_of_lt_of_le (Bw b) (Nat.pow_le_pow_right (by omega) (by omega))⟩;have af:18<(num a).size∨((num a).size<=18/\18<(num b).size):=by omega
 clear hM aa
 rcases af with ae | ⟨ae,ak⟩
 all_goals
  go_enter Tryz.func159,Tryz.ntmps159;go_wp2
  go_loopw [5,6,7] (fun v c i wr=>∃k cc:Nat,k<=M+1/\i=.int .i64 (k:Int)/\c=.int .i64 (cc:Int)/\cc<=1/\Of w a b k cc v wr) (fun _ _ i _=>M+1-(intOf i).toNat)
  case atStart=>exact⟨0,0,by omega,rfl,rfl,by omega,[],rfl,fun _ h=>absurd h (by simp),World.ownsRow_nil _ _ _ _,by simp[dv,Nat.mod_one],Below.refl _ _⟩
  case round =>
   obtain⟨k,cc,hk,rfl,rfl,am,ds,z1,z2,z3,z4,z5⟩:=hrel;have ag:=z5.size
   by_cases hlt:k<M+1
   · obtain ⟨x,hx⟩:∃x,x=a/10^k%10:=⟨_,rfl⟩;obtain⟨y,hy⟩:∃y,y=b/10^k%10:=⟨_,rfl⟩;have cx:=Ek a k wr (by omega) (by omega);have cy:=Ek b k wr (by omega) (by omega);have hr:=Nh z4;rw[<-hx]at cx hr;rw[<-hy]at cy hr;have ao:x<10:=by omega
     have aq:y<10:=by omega
     have e1:(((x+y+cc)%10:Nat):Int)=((x:Int)+(y:Int)+(cc:Int))%10:=by omega
     have HS:Hid (∀w2 v2,w2.ownsRow w.heap.size 3 1 v2 (ds.length+1) (CV ds++[Value.int .i64 (((x:Int)+(y:Int)+(cc:Int))%10)])->Below w.heap.size w w2->Of w a b (k+1) ((x+y+cc)/10) v2 w2):=fun w2 v2 ho hb=>by
      refine⟨ds++[(x+y+cc)%10],by simp[z1],L0 z2 (by omega),?_,?_,hb⟩
      · unfold OwnI;rw[<-Iz,e1,List.length_append];exact ho
      · rw[Oe,z1];exact hr
     have HO:Hid (wr.ownsRow w.heap.size 3 1 u5 ds.length (CV ds)):=z3;have HB:=zh z5;have HL:Hid (ds.length=k):=z1;clear z1 z2 z3 z4 z5 hx hy hr e1
     go_wp2_with fail
     refine cx.mono ?_;rintro e w1 ⟨rfl,rfl⟩
     go_wp2_with fail
     refine cy.mono ?_;rintro e w1 ⟨rfl,rfl⟩;clear cx cy
     go_wp2_with (at_builtin;refine wpList_append_own _ rfl _ _ 26 rfl w.heap.size 3 i0 (.int .i64 0) 1 8 Tryz.underlying26 hi ah ai aj rfl (by decide) u5 ds.length (CV ds) rfl (HO.out.alloc _) ⟨wr.heap.size,0,none⟩ 1 1 [.int .i64 (((x:Int)+(y:Int)+(cc:Int))%10)] rfl rfl (Cj _ _ _) (BP _ _) (by have:=HL.out;unfold maxLen;omega) (by have:=HL.out;omega) (by simp;omega) ?_;intro v2 w2 d ad _)
     refine⟨⟨k+1,(x+y+cc)/10,by omega,by go_num,by go_num,by omega,HS.out w2 v2 d ((HB.out.alloc (by omega) _).grown ad (by simp;omega) (fun b e=>(HO.out.lt b e).1))⟩,by simp only[intOf];omega⟩
   · obtain rfl:k=M+1:=by omega
     have hv:=ST z4 HA.out.1 HA.out.2;have ct:=ES wr u5 ds (z3.at (by intro h;rw[h]at z1;simp at z1)) (by omega) (by omega) z2;rw[hv]at ct;replace z5:=zh z5;clear z1 z2 z3 z4 hv
     go_wp2_with fail
     refine ct.mono ?_;rintro e w1 ⟨rfl,hb⟩;have hB:=zh (z5.out.trans (hb.mono ag));clear hb ct;go_wp2;go_ret;exact⟨rfl,hB.out⟩
theorem SV {a:Nat} (h:(num a).size<=18):a<1000000000000000000:=by
 have h1:=Bw a;have h2:10^(num a).size<=10^18:=Nat.pow_le_pow_right (by omega) h;omega
theorem Wm {a:Nat} (h:(num a).size<=9):a<1000000000:=by
 have h1:=Bw a;have h2:10^(num a).size<=10^9:=Nat.pow_le_pow_right (by omega) h;omega
theorem Nn (a b:Nat) (w:World) (ha:(num a).size<=18) (hb:(num b).size<=18) :
 Calls Tryz.prog 159 #[.string (num a),.string (num b)] w fun e w'=>e=.returned (.string (num (a+b)))/\w=w':=by
 have h1:=SV ha;have h2:=SV hb;have c1:=Dt a w ha;have c2:=Dt b w hb;have c3:=DK (a+b) w (by omega);rw[Int.natCast_add]at c3;go_enter Tryz.func159,Tryz.ntmps159
 go_wp2_with fail
 refine c1.mono ?_;rintro e w1 ⟨rfl,rfl⟩
 go_wp2_with fail
 refine c2.mono ?_;rintro e w1 ⟨rfl,rfl⟩
 go_wp2_with fail
 refine c3.mono ?_;rintro e w1 ⟨rfl,rfl⟩;go_wp2;go_ret;exact⟨rfl,rfl⟩
theorem SW (a b:Nat) (w:World) (ha:(num a).size<=10000) (hb:(num b).size<=10000) :
 Calls Tryz.prog 159 #[.string (num a),.string (num b)] w fun e w'=>e=.returned (.string (num (a+b)))/\Below w.heap.size w w':=by
 by_cases h:(num a).size<=18/\(num b).size<=18
 · refine(Nn a b w h.1 h.2).mono ?_;rintro e w' ⟨rfl,rfl⟩;exact⟨rfl,Below.refl _ _⟩
 · exact SU a b w ha hb h
def L2 (w:World) (a b:Nat) (k c:Nat) (v:Value) (wr:World):Prop :=
 ∃ds,ds.length=k/\(∀d∈ds,d<10)/\OwnI w.heap.size wr v ds/\dv ds+b%10^k=a%10^k+10^k*c/\Below w.heap.size w wr
theorem PK {D a b k c:Nat} (h:D+b%10^k=a%10^k+10^k*c) (ha:a<10^k) (hb:b<=a) (hD:D<10^k):D=a-b:=by
 rw[Nat.mod_eq_of_lt (by omega),Nat.mod_eq_of_lt ha]at h
 rcases Nat.eq_zero_or_pos c with h0 | h0
 · subst h0;omega
 · have:10^k*1<=10^k*c:=Nat.mul_le_mul_left _ h0;omega
theorem PM (a b:Nat) (w:World) (ha:(num a).size<=10000) (ae:b<=a) :
 Calls Tryz.prog 154 #[.string (num a),.string (num b)] w fun e w'=>e=.returned (.string (num (a-b)))/\Below w.heap.size w w':=by
 obtain⟨i0,hi,af,ag,ah⟩:=info_parts If;have hb:=El ae;have ak:=Gi a;have HA:=zh (Bw a);replace ae:=zh ae;go_enter Tryz.func154,Tryz.ntmps154;go_wp2
 go_loopw [5,6,7] (fun v c i wr=>∃k cc:Nat,k<=(num a).size/\i=.int .i64 (k:Int)/\c=.int .i64 (cc:Int)/\cc<=1/\L2 w a b k cc v wr) (fun _ _ i _=>(num a).size-(intOf i).toNat)
 case atStart=>exact⟨0,0,by omega,rfl,rfl,by omega,[],rfl,fun _ h=>absurd h (by simp),World.ownsRow_nil _ _ _ _,by simp[dv,Nat.mod_one],Below.refl _ _⟩
 case round =>
  obtain⟨k,cc,hk,rfl,rfl,al,ds,z1,z2,z3,z4,z5⟩:=hrel;have aj:=z5.size
  by_cases hlt:k<(num a).size
  · obtain ⟨x,hx⟩:∃x,x=a/10^k%10:=⟨_,rfl⟩;obtain⟨y,hy⟩:∃y,y=b/10^k%10:=⟨_,rfl⟩;have cx:=Ek a k wr (by omega) (by omega);have cy:=Ek b k wr (by omega) (by omega);rw[<-hx]at cx;rw[<-hy]at cy;have am:x<10:=by omega
    have an:y<10:=by omega
    have HS:Hid (∀(z c':Nat) (d:Int) w2 v2,z<10->c'<=1->z+y+cc=x+10*c'->d=(z:Int)->w2.ownsRow w.heap.size 3 1 v2 (ds.length+1) (CV ds++[Value.int .i64 d])->Below w.heap.size w w2->L2 w a b (k+1) c' v2 w2):=fun z c' d w2 v2 hz hc he ai ho hb=>by
     subst ai;refine⟨ds++[z],by simp[z1],L0 z2 hz,?_,?_,hb⟩
     · unfold OwnI;rw[<-Iz,List.length_append];exact ho
     · rw[Oe,z1];exact Lw z4 (by rw[<-hx,<-hy];exact he)
    have HO:Hid (wr.ownsRow w.heap.size 3 1 u5 ds.length (CV ds)):=z3;have HB:=zh z5;have HL:Hid (ds.length=k):=z1;clear z1 z2 z3 z4 z5 hx hy
    by_cases hneg:x<y+cc
    all_goals
     go_wp2_with fail
     refine cx.mono ?_;rintro e w1 ⟨rfl,rfl⟩
     go_wp2_with fail
     refine cy.mono ?_;rintro e w1 ⟨rfl,rfl⟩;clear cx cy
    · go_wp2_with (at_builtin;refine wpList_append_own _ rfl _ _ 26 rfl w.heap.size 3 i0 (.int .i64 0) 1 8 Tryz.underlying26 hi af ag ah rfl (by decide) u5 ds.length (CV ds) rfl (HO.out.alloc _) ⟨wr.heap.size,0,none⟩ 1 1 [.int .i64 ((x:Int)-(y:Int)-(cc:Int)+10)] rfl rfl (Cj _ _ _) (BP _ _) (by have:=HL.out;unfold maxLen;omega) (by have:=HL.out;omega) (by simp;omega) ?_;intro v2 w2 aa ad _)
      refine⟨⟨k+1,1,by omega,by go_num,by go_num,by omega,HS.out (x+10-y-cc) 1 _ w2 v2 (by omega) (by omega) (by omega) (by omega) aa ((HB.out.alloc (by omega) _).grown ad (by simp;omega) (fun b e=>(HO.out.lt b e).1))⟩,by simp only[intOf];omega⟩
    · go_wp2_with (at_builtin;refine wpList_append_own _ rfl _ _ 26 rfl w.heap.size 3 i0 (.int .i64 0) 1 8 Tryz.underlying26 hi af ag ah rfl (by decide) u5 ds.length (CV ds) rfl (HO.out.alloc _) ⟨wr.heap.size,0,none⟩ 1 1 [.int .i64 ((x:Int)-(y:Int)-(cc:Int))] rfl rfl (Cj _ _ _) (BP _ _) (by have:=HL.out;unfold maxLen;omega) (by have:=HL.out;omega) (by simp;omega) ?_;intro v2 w2 aa ad _)
      refine⟨⟨k+1,0,by omega,by go_num,by go_num,by omega,HS.out (x-y-cc) 0 _ w2 v2 (by omega) (by omega) (by omega) (by omega) aa ((HB.out.alloc (by omega) _).grown ad (by simp;omega) (fun b e=>(HO.out.lt b e).1))⟩,by simp only[intOf];omega⟩
  · obtain rfl:k=(num a).size:=by omega
    have hD:=Wl z2;rw[z1]at hD;have hv:=PK z4 HA.out ae.out hD;have ct:=ES wr u5 ds (z3.at (by intro h;rw[h]at z1;simp at z1;omega)) (by omega) (by omega) z2;rw[hv]at ct;replace z5:=zh z5;clear z1 z2 z3 z4 hv hD
    go_wp2_with fail
    refine ct.mono ?_;rintro e w1 ⟨rfl,hb⟩;have hB:=zh (z5.out.trans (hb.mono aj));clear hb ct;go_wp2;go_ret;exact⟨rfl,hB.out⟩
end Nt
end
section
open Go.RowKit Go.Shelf
namespace Nt
def RowI (w:World) (g:Nat) (zs:List Nat):Prop:=w.heap[g]? = some (.cells (CV zs).toArray 3 (0,0))
theorem RowI.lt {w:World} {g:Nat} {zs:List Nat} (h:RowI w g zs):g<w.heap.size:=(Array.getElem?_eq_some_iff.1 h).1
theorem RowI.frozen {w:World} {g:Nat} {zs:List Nat} (h:RowI w g zs) (i:Nat):w.frozen? ⟨g,i,none⟩=false:=by
 unfold RowI at h;simp[World.frozen?,h]
theorem RowI.cell {w:World} {g:Nat} {zs:List Nat} (h:RowI w g zs) {i:Nat} (hi:i<zs.length):w.cell? ⟨g,i,none⟩=some (.int .i64 (lim zs i)):=by
 unfold RowI at h;simp only[World.cell?,h];simp[CV,lim,hi]
theorem RowI.set {w:World} {g:Nat} {zs:List Nat} (h:RowI w g zs) (i:Nat) (y:Nat):RowI (w.setCell ⟨g,i,none⟩ (.int .i64 (y:Int))) g (zs.set i y):=by
 unfold RowI at h ⊢;simp only[World.setCell,Array.getElem?_modify,h];simp[CV,List.map_set]
theorem PN (n:Nat):madeCells #[.int .i64 0] n=(CV (List.replicate n 0)).toArray:=by
 unfold madeCells CV;apply Array.ext
 · simp
 · intro i h1 h2;have e:i%1=0:=Nat.mod_one i;simp[e]
theorem RowI.made0 (w:World) (n:Nat):RowI (w.alloc (.cells (madeCells #[.int .i64 0] n) 3)) w.heap.size (List.replicate n 0):=by
 unfold RowI;rw[heap_alloc_new,PN]
theorem RowI.at {w:World} {g:Nat} {zs:List Nat} (h:RowI w g zs):Nk w (.slice (some ⟨g,0,none⟩) zs.length zs.length) zs :=
 ⟨g,0,zs.length,rfl,h.lt,fun i hi=>by rw[Nat.zero_add];exact h.cell hi⟩
theorem IC (n:Nat) (hn:n<=1000000) (w:World) :
 (Instr.makeSlice 26 (.int .i64 (n:Int)) (.int .i64 (n:Int))).run Tryz.prog w =
   .ok (.slice (some ⟨w.heap.size,0,none⟩) n n) (w.alloc (.cells (madeCells #[.int .i64 0] n) 3)) :=
 run_make_row' 26 3 (.int .i64 0) 8 Tryz.underlying26 If rfl .i64 .i64 n (by omega) (by omega) w
theorem GU (n i:Nat) (w:World) (hs:(num n).size<=140737488355328) (hi:i<=140737488355328) :
 Calls Tryz.prog 155 #[.string (num n),.int .i64 (i:Int)] w fun e w'=>e=.returned (.int .i64 ((n/10^i%10:Nat):Int))/\w'=w :=
 (Ek n i w hs hi).mono fun _ _ h=>⟨h.1,h.2.symm⟩
def TOut (w:World) (a b L g i:Nat) (wr:World):Prop :=
 ∃zs,zs.length=L/\RowI wr g zs/\(∀p,lim zs p<=81*i)/\dv zs=(a%10^i)*b/\Below w.heap.size w wr
def TIn (w:World) (a b L g i j:Nat) (wr:World):Prop :=
 ∃zs,zs.length=L/\RowI wr g zs/\(∀p,lim zs p<=81*(i+1))/\(∀p,i+j<=p->lim zs p<=81*i)/\dv zs=(a%10^i)*b+10^i*((a/10^i%10)*(b%10^j))/\Below w.heap.size w wr
theorem TOut.start {w wr:World} {a b L g i:Nat} (h:TOut w a b L g i wr):TIn w a b L g i 0 wr:=by
 obtain⟨zs,h1,h2,h3,h4,h5⟩:=h;exact⟨zs,h1,h2,fun p=>by have:=h3 p;omega,fun p _=>h3 p,by simp[h4,Nat.mod_one],h5⟩
theorem TIn.done {w wr:World} {a b L g i:Nat} (h:TIn w a b L g i (num b).size wr):TOut w a b L g (i+1) wr:=by
 obtain⟨zs,h1,h2,h3,h4,h5,h6⟩:=h;refine⟨zs,h1,h2,h3,?_,h6⟩;rw[h5,Lz (Nat.le_refl _),Cc,Nat.add_mul,Nat.mul_assoc]
theorem TIn.at {w wr:World} {a b L g i j:Nat} (h:TIn w a b L g i j wr) (hl:i+j<L) :
 ∃z:Nat,z<=81*i/\wr.cell? ⟨g,i+j,none⟩=some (.int .i64 (z:Int))/\wr.frozen? ⟨g,i+j,none⟩=false:=by
 obtain⟨zs,h1,h2,h3,h4,h5,h6⟩:=h;exact⟨lim zs (i+j),h4 _ (Nat.le_refl _),h2.cell (by omega),h2.frozen _⟩
theorem TIn.step {w wr:World} {a b L g i j:Nat} (h:TIn w a b L g i j wr) (hl:i+j<L) (hg:w.heap.size<=g) {z x y:Nat} {d:Int} (hz:wr.cell? ⟨g,i+j,none⟩=some (.int .i64 (z:Int)))
 (hx:x=a/10^i%10) (hy:y=b/10^j%10) (hd:d=((z+x*y:Nat):Int)):TIn w a b L g i (j+1) (wr.drew.setCell ⟨g,i+j,none⟩ (.int .i64 d)):=by
 subst hd;obtain⟨zs,h1,h2,h3,h4,h5,h6⟩:=h;have hc:=h2.cell (i:=i+j) (by omega);rw[hz]at hc;have ad:z=lim zs (i+j):=by simp at hc;omega
 have ae:x*y<=9*9:=Nat.mul_le_mul (by omega) (by omega);have af:=h4 (i+j) (Nat.le_refl _);have aa:RowI wr.drew g zs:=h2;refine⟨zs.set (i+j) (z+x*y),by simpa using h1,aa.set _ _,fun p=>?_,fun p hp=>?_,?_,h6.drew.setCell hg _⟩
 · by_cases e:p=i+j
   · subst e;rw[Hd _ _ _ (by omega)];omega
   · rw[Bi _ _ _ _ e];exact h3 p
 · rw[Bi _ _ _ _ (by omega)];exact h4 p (by omega)
 · have hs:=Kj zs (i+j) (z+x*y) (by omega);rw[<-ad,Nat.mul_add]at hs;rw[Cc b j,<-hy,<-hx,Nat.mul_add,Nat.mul_add];have e:10^(i+j)*(x*y)=10^i*(x*(10^j*y)):=by rw[Nat.pow_add,Nat.mul_assoc,Nat.mul_left_comm (10^j)]
   rw[<-hx]at h5;omega
def TCar (w:World) (a b L g i:Nat) (wr:World):Prop :=
 ∃zs,zs.length=L/\RowI wr g zs/\(∀p,p<i->lim zs p<10)/\lim zs i<=900000/\(∀p,i<p->lim zs p<=810000)/\dv zs=a*b/\Below w.heap.size w wr
theorem TOut.car {w wr:World} {a b L g:Nat} (h:TOut w a b L g (num a).size wr) (ha:(num a).size<=10000):TCar w a b L g 0 wr:=by
 obtain⟨zs,h1,h2,h3,h4,h5⟩:=h;exact⟨zs,h1,h2,fun p hp=>absurd hp (by omega),by have:=h3 0;omega,fun p _=>by have:=h3 p;omega,by rw[h4,Lz (Nat.le_refl _)],h5⟩
theorem TCar.at {w wr:World} {a b L g i:Nat} (h:TCar w a b L g i wr) (hl:i+1<L) :
 ∃z y:Nat,z<=900000/\y<=810000/\wr.cell? ⟨g,i,none⟩=some (.int .i64 (z:Int))/\wr.cell? ⟨g,i+1,none⟩=some (.int .i64 (y:Int))/\wr.frozen? ⟨g,i,none⟩=false/\wr.frozen? ⟨g,i+1,none⟩=false:=by
 obtain⟨zs,h1,h2,h3,h4,h5,h6,h7⟩:=h;exact⟨lim zs i,lim zs (i+1),h4,h5 _ (by omega),h2.cell (by omega),h2.cell (by omega),h2.frozen _,h2.frozen _⟩
theorem TCar.step {w wr:World} {a b L g i:Nat} (h:TCar w a b L g i wr) (hl:i+1<L) (hg:w.heap.size<=g) {z y:Nat} {d1 d2:Int} (hz:wr.cell? ⟨g,i,none⟩=some (.int .i64 (z:Int))) (hy:wr.cell? ⟨g,i+1,none⟩=some (.int .i64 (y:Int)))
 (e1:d1=((y+z/10:Nat):Int)) (e2:d2=((z%10:Nat):Int)):TCar w a b L g (i+1) ((wr.drew.setCell ⟨g,i+1,none⟩ (.int .i64 d1)).setCell ⟨g,i,none⟩ (.int .i64 d2)):=by
 subst e1 e2;obtain⟨zs,h1,h2,h3,h4,h5,h6,h7⟩:=h;have hc:=h2.cell (i:=i) (by omega);rw[hz]at hc;have ae:z=lim zs i:=by simp at hc;omega
 have d:=h2.cell (i:=i+1) (by omega);rw[hy]at d;have ad:y=lim zs (i+1):=by simp at d;omega
 have aa:RowI wr.drew g zs:=h2;have hb:=h5 (i+1) (by omega);refine⟨(zs.set (i+1) (y+z/10)).set i (z%10),by simpa using h1,(aa.set _ _).set _ _,fun p hp=>?_,?_,fun p hp=>?_,?_,(h7.drew.setCell hg _).setCell hg _⟩
 · by_cases e:p=i
   · subst e;rw[Hd _ _ _ (by simp;omega)];omega
   · rw[Bi _ _ _ _ e,Bi _ _ _ _ (by omega)];exact h3 p (by omega)
 · rw[Bi _ _ _ _ (by omega),Hd _ _ _ (by omega)];omega
 · rw[Bi _ _ _ _ (by omega),Bi _ _ _ _ (by omega)];exact h5 p (by omega)
 · have s1:=Kj zs (i+1) (y+z/10) (by omega);have s2:=Kj (zs.set (i+1) (y+z/10)) i (z%10) (by simp;omega);rw[Bi _ _ _ _ (by omega),<-ae]at s2;rw[<-ad,Nat.pow_succ]at s1;rw[<-h6];generalize 10^i=P at s1 s2;have e3:P*z=P*(z%10)+P*10*(z/10):=by rw[Nat.mul_assoc,<-Nat.mul_add,Nat.mod_add_div]
   rw[Nat.mul_add]at s1;omega
theorem TCar.end {w wr:World} {a b L g:Nat} (h:TCar w a b (L+1) g L wr) (hL:a*b<10^L):∃zs,zs.length=L+1/\RowI wr g zs/\(∀d∈zs,d<10)/\dv zs=a*b/\Below w.heap.size w wr:=by
 obtain⟨zs,h1,h2,h3,h4,h5,h6,h7⟩:=h;refine⟨zs,h1,h2,fun d hd=>?_,h6,h7⟩;obtain⟨p,hp,rfl⟩:=List.getElem_of_mem hd;rw[<-DM _ _ hp]
 by_cases e:p<L
 · exact h3 p e
 · obtain rfl:p=L:=by omega
   have h8:=Wk zs p hp
   rcases Nat.eq_zero_or_pos (lim zs p) with h0 | h0
   · omega
   · have:10^p*1<=10^p*lim zs p:=Nat.mul_le_mul_left _ h0;omega
theorem L3 (a b:Nat) (w:World) (ha:(num a).size<=9) (hb:(num b).size<=9) :
 Calls Tryz.prog 113 #[.string (num a),.string (num b)] w fun e w'=>e=.returned (.string (num (a*b)))/\w=w':=by
 have h1:=Wm ha;have h2:=Wm hb;have hp:a*b<=999999999*999999999:=Nat.mul_le_mul (by omega) (by omega);have c1:=Dt a w (by omega);have c2:=Dt b w (by omega);have c3:=DK (a*b) w (by omega);have e:((a*b:Nat):Int)=(a:Int)*(b:Int):=Int.natCast_mul _ _;have h:(a:Int)*(b:Int)<=999999998000000001:=by rw[<-e];omega
 have d:0<=(a:Int)*(b:Int):=by rw[<-e];omega
 rw[e]at c3;clear e hp;go_enter Tryz.func113,Tryz.ntmps113
 go_wp2_with fail
 refine c1.mono ?_;rintro e w1 ⟨rfl,rfl⟩
 go_wp2_with fail
 refine c2.mono ?_;rintro e w1 ⟨rfl,rfl⟩
 go_wp2_with fail
 refine c3.mono ?_;rintro e w1 ⟨rfl,rfl⟩;go_wp2;go_ret;exact⟨rfl,rfl⟩
theorem PO (a b:Nat) (w:World) (ha:(num a).size<=10000) (hb:(num b).size<=10000) (ae:¬((num a).size<=9/\(num b).size<=9)) :
 Calls Tryz.prog 113 #[.string (num a),.string (num b)] w fun e w'=>e=.returned (.string (num (a*b)))/\Below w.heap.size w w':=by
 have h:=IC ((num a).size+(num b).size+1) (by omega);rw[Int.natCast_add,Int.natCast_add,Int.natCast_one]at h
 have HL:Hid (a*b<10^((num a).size+(num b).size)):=by
  unfold Hid;rw[Nat.pow_add];exact Nat.mul_lt_mul'' (Bw a) (Bw b)
 have ag:9<(num a).size∨((num a).size<=9/\9<(num b).size):=by omega
 clear ae
 rcases ag with af | ⟨af,an⟩
 all_goals
  go_enter Tryz.func113,Tryz.ntmps113;go_wp2
  go_loopw [6] (fun i wr=>∃k:Nat,k<=(num a).size/\i=.int .i64 (k:Int)/\TOut w a b ((num a).size+(num b).size+1) w.heap.size k wr) (fun i _=>(num a).size-(intOf i).toNat)
  case atStart=>exact⟨0,Nat.zero_le _,rfl,List.replicate ((num a).size+(num b).size+1) 0,by simp,RowI.made0 _ _,fun p=>by rw[DV];omega,by rw[SM];simp[Nat.mod_one],(Below.refl _ _).alloc (Nat.le_refl _) _⟩
  case round =>
   obtain⟨k,hk,rfl,hrel⟩:=hrel
   by_cases hkn:k<(num a).size
   · have HR:=zh hrel;clear hrel h;go_wp2;obtain⟨wo,rfl⟩:∃wo:World,wo=wr:=⟨_,rfl⟩
     go_loopw [7] (fun j wr=>∃q:Nat,q<=(num b).size/\j=.int .i64 (q:Int)/\TIn w a b ((num a).size+(num b).size+1) w.heap.size k q wr) (fun j _=>(num b).size-(intOf j).toNat)
     case atStart=>exact⟨0,Nat.zero_le _,rfl,HR.out.start⟩
     case round =>
      obtain⟨q,hq,rfl,hrel⟩:=hrel
      by_cases hqn:q<(num b).size
      · obtain⟨z,hz,aa,ak⟩:=hrel.at (by omega);obtain⟨x,hx⟩:∃x,x=a/10^k%10:=⟨_,rfl⟩;obtain⟨y,hy⟩:∃y,y=b/10^q%10:=⟨_,rfl⟩;have cx:=fun W=>GU a k W (by omega) (by omega);have cy:=fun W=>GU b q W (by omega) (by omega);rw[<-hx]at cx;rw[<-hy]at cy;have ao:x<10:=by omega
        have aq:y<10:=by omega
        have ai:x*y<=9*9:=Nat.mul_le_mul (by omega) (by omega);have exy:((x*y:Nat):Int)=(x:Int)*(y:Int):=Int.natCast_mul _ _;have am:(x:Int)*(y:Int)<=81:=by rw[<-exy];omega
        have al:0<=(x:Int)*(y:Int):=by rw[<-exy];omega
        have HS:=zh (fun d hd=>hrel.step (d:=d) (by omega) (Nat.le_refl _) aa hx hy hd);have s1:IntKind.i64.wrap ((k:Int)+(q:Int))=(k:Int)+(q:Int):=IntWalk.i64_in _ (by omega);have s2:(0:Int)<=(k:Int)+(q:Int):=by omega
        have s3:(k:Int)+(q:Int)<((num a).size:Int)+((num b).size:Int)+1:=by omega
        have s4:((k:Int)+(q:Int)).toNat=k+q:=by omega
        have s5:IntKind.i64.wrap ((x:Int)*(y:Int))=(x:Int)*(y:Int):=IntWalk.i64_in _ (by omega);have s6:IntKind.i64.wrap ((z:Int)+(x:Int)*(y:Int))=(z:Int)+(x:Int)*(y:Int):=IntWalk.i64_in _ (by omega);clear hx hy hrel ai exy HR;go_wp2;refine wp_region_still_tail 15 (by kernel_rfl) (by kernel_rfl) ?_;simp only[List.take_succ_cons,List.take_zero,List.drop_succ_cons,List.drop_zero]
        repeat still_step
        still_call (cx _)
        repeat still_step
        still_call (cy _)
        repeat still_step
        refine wpStill_nil ?_;change wpList _ _ _ _ _ wr.drew;go_wp2;exact⟨⟨q+1,by omega,by go_num,HS.out _ (by simp)⟩,by simp only[intOf];omega⟩
      · obtain rfl:q=(num b).size:=by omega
        have HT:=zh hrel.done;clear hrel HR;go_wp2;exact⟨⟨k+1,by omega,by go_num,HT.out⟩,by simp only[intOf];omega⟩
   · obtain rfl:k=(num a).size:=by omega
     have HT:=zh (hrel.car ha);clear hrel h;go_wp2
     go_loopw [8] (fun i wr=>∃k:Nat,k<=(num a).size+(num b).size/\i=.int .i64 (k:Int)/\TCar w a b ((num a).size+(num b).size+1) w.heap.size k wr) (fun i _=>(num a).size+(num b).size-(intOf i).toNat)
     case atStart=>exact⟨0,Nat.zero_le _,rfl,HT.out⟩
     case round =>
      obtain⟨k,hk,rfl,hrel⟩:=hrel
      by_cases hkn:k<(num a).size+(num b).size
      · obtain⟨z,y,hz,hy,aa,aj,ak,ar⟩:=hrel.at (by omega);have HS:=zh (fun d1 d2 e1 e2=>hrel.step (d1:=d1) (d2:=d2) (by omega) (Nat.le_refl _) aa aj e1 e2);have s1:IntKind.i64.wrap ((k:Int)+1)=(k:Int)+1:=IntWalk.i64_in _ (by omega);have s2:(0:Int)<=(k:Int)+1:=by omega
        have s3:(k:Int)<((num a).size:Int)+((num b).size:Int):=by omega
        have s4:((k:Int)+1).toNat=k+1:=by omega
        have s8:(k:Int)<((num a).size:Int)+((num b).size:Int)+1:=by omega
        have s5:(z:Int).tdiv 10=((z/10:Nat):Int):=by rw[Int.tdiv_eq_ediv_of_nonneg (by omega)];rfl
        have s6:IntKind.i64.wrap ((z/10:Nat):Int)=((z/10:Nat):Int):=IntWalk.i64_in _ (by omega);have s7:IntKind.i64.wrap ((y:Int)+((z/10:Nat):Int))=(y:Int)+((z/10:Nat):Int):=IntWalk.i64_in _ (by omega);clear hrel HT;go_wp2;refine wp_region_still_tail 12 (by kernel_rfl) (by kernel_rfl) ?_;simp only[List.take_succ_cons,List.take_zero,List.drop_succ_cons,List.drop_zero]
        repeat still_step
        refine wpStill_nil ?_;change wpList _ _ _ _ _ wr.drew;go_wp2;exact⟨⟨k+1,by omega,by go_num,HS.out _ _ (by omega) (by omega)⟩,by simp only[intOf];omega⟩
      · obtain rfl:k=(num a).size+(num b).size:=by omega
        obtain⟨zs,z1,z2,z3,z4,z5⟩:=hrel.end HL.out;have ad:=z2.at;have ct:=ES wr _ zs ad (by omega) (by omega) z3;rw[z1,z4]at ct;have ah:=z5.size;replace z5:=zh z5;clear hrel HT z1 z2 z3 z4 ad
        go_wp2_with fail
        refine ct.mono ?_;rintro e w1 ⟨rfl,hb⟩;have hB:=zh (z5.out.trans (hb.mono ah));clear hb ct;go_wp2;go_ret;exact⟨rfl,hB.out⟩
theorem PP (a b:Nat) (w:World) (ha:(num a).size<=10000) (hb:(num b).size<=10000) :
 Calls Tryz.prog 113 #[.string (num a),.string (num b)] w fun e w'=>e=.returned (.string (num (a*b)))/\Below w.heap.size w w':=by
 by_cases h:(num a).size<=9/\(num b).size<=9
 · refine(L3 a b w h.1 h.2).mono ?_;rintro e w' ⟨rfl,rfl⟩;exact⟨rfl,Below.refl _ _⟩
 · exact PO a b w ha hb h
end Nt
end
section
open Go.RowKit Go.Shelf
namespace Nt
theorem FZ:num 0=⟨#[48]⟩:=JC [48] 0 (by decide) (by decide)
theorem PQ (a b:Nat) (w:World) (ha:(num a).size<=10000) (hb:(num b).size<=10000) (h:a<b) :
 Calls Tryz.prog 111 #[.string (num a),.string (num b)] w fun e w'=>e=.returned (.tuple #[.string (num (a/b)),.string (num (a%b))])/\w=w':=by
 have c1:=Ff a b w (by omega) (by omega);rw[Cv h]at c1;have HV:Hid (num (a/b)=⟨#[48]⟩/\num (a%b)=num a):=⟨by rw[Nat.div_eq_of_lt h,FZ],by rw[Nat.mod_eq_of_lt h]⟩;clear h;go_enter Tryz.func111,Tryz.ntmps111
 go_wp2_with fail
 refine c1.mono ?_;rintro e w1 ⟨rfl,rfl⟩;go_wp2;go_ret2;exact⟨by rw[HV.out.1,HV.out.2];rfl,rfl⟩
theorem Kk {a b:Nat} (h:b<=a):∃c:Int,c=Bm a b/\0<=c/\c<=1:=by
 refine⟨_,rfl,?_⟩;unfold Bm;rw[if_neg (by omega)]
 split<;>omega
theorem No (a b:Nat) (w:World) (ha:(num a).size<=18) (d:b≠0) (h:b<=a) :
 Calls Tryz.prog 111 #[.string (num a),.string (num b)] w fun e w'=>e=.returned (.tuple #[.string (num (a/b)),.string (num (a%b))])/\w=w':=by
 have hb:=El h;have h1:=SV ha;have c1:=Ff a b w (by omega) (by omega);obtain⟨c,hc,aa,ad⟩:=Kk h;rw[<-hc]at c1;have v1:=Dt a w ha;have v2:=Dt b w (by omega);have hq:=Nat.div_le_self a b;have hr:a%b<b:=Nat.mod_lt _ (by omega);have d1:=DK (a/b) w (by omega);have d2:=DK (a%b) w (by omega);rw[Int.natCast_ediv]at d1;rw[Int.natCast_emod]at d2;have hz:((b:Int)==0)=false:=by rw[beq_eq_false_iff_ne];omega
 have hw:wrap64 ((a:Int)/(b:Int))=(a:Int)/(b:Int):=by
  have e:(a:Int)/(b:Int)=((a/b:Nat):Int):=by simp
  rw[e];generalize a/b=q at hq;exact IntWalk.wrap64_in _ ⟨by omega,by omega⟩
 clear hc hq hr;replace d:=zh d;go_enter Tryz.func111,Tryz.ntmps111
 go_wp2_with fail
 refine c1.mono ?_;rintro e w1 ⟨rfl,rfl⟩
 go_wp2_with fail
 refine v1.mono ?_;rintro e w1 ⟨rfl,rfl⟩
 go_wp2_with fail
 refine v2.mono ?_;rintro e w1 ⟨rfl,rfl⟩
 go_wp2_with fail
 refine d1.mono ?_;rintro e w1 ⟨rfl,rfl⟩
 go_wp2_with fail
 refine v1.mono ?_;rintro e w1 ⟨rfl,rfl⟩
 go_wp2_with fail
 refine v2.mono ?_;rintro e w1 ⟨rfl,rfl⟩
 go_wp2_with fail
 refine d2.mono ?_;rintro e w1 ⟨rfl,rfl⟩;go_wp2;go_ret2;exact⟨rfl,rfl⟩
def UH (w:World) (a b i:Nat) (v:Value) (s:ByteArray) (wr:World):Prop :=
 ∃ qs:List UInt8,(∀c∈qs,AE c)/\(∀c∈s.data.toList,AE c)/\s.size<=20000/\qs.length<=i/\A5 ((num a).data.toList.take i)=A5 qs*b+val s/\val s<b /\
  (i+1=(num b).size∨(s=num (val s)/\qs≠[]))/\OwnB w.heap.size wr v qs/\Below w.heap.size w wr
def V6 (w:World) (R b:Nat) (qs:List UInt8) (v:Value) (t r:Nat) (wr:World):Prop:=r+t*b=R/\OwnB w.heap.size wr v qs/\Below w.heap.size w wr
theorem PR {s a:ByteArray} {i:Nat} (hi:i<a.size) (hs:∀c∈s.data.toList,AE c) (ha:∀c∈a.data.toList,AE c) :
 (s++a.extract i (i+1)).data.toList=s.data.toList++[a[i]]/\(∀c∈(s++a.extract i (i+1)).data.toList,AE c)/\(s++a.extract i (i+1)).size=s.size+1:=by
 have e:(s++a.extract i (i+1)).data.toList=s.data.toList++[a[i]]:=by
  rw[ByteArray.toList_data_append,Lib.extract_data,show i+1-i=1 by omega]
  congr 1
  rw[List.drop_eq_getElem_cons (by simpa using hi)];rfl
 refine⟨e,fun c hc=>?_,?_⟩
 · rw [e]at hc
   rcases List.mem_append.1 hc with h | h
   · exact hs c h
   · simp at h;subst h
     exact ha _ (by
      have:a[i]=a.data.toList[i]'(by simpa using hi):=rfl;rw[this];exact List.getElem_mem _)
 · rw[Lib.size_eq,e];simp
theorem SX (a b:Nat) (d:b≠0) :
 ((num a).extract 0 ((num b).size-1)).data.toList=(num a).data.toList.take ((num b).size-1)/\A5 ((num a).data.toList.take ((num b).size-1))<b:=by
 constructor
 · rw[Lib.extract_data];simp
 · have h1:=Gh (l:=(num a).data.toList) (by rw[Bl];exact A7 a) ((num b).size-1);have hp:=Gi b
   by_cases hs:(num b).size-1=0
   · rw[hs]at h1 ⊢;simp only[List.take_zero,E9];omega
   · have h2:¬b<10^((num b).size-1):=fun hc=>by
      have:=AI hc (by omega);rw[<-BL]at this;omega
     omega
theorem SY {A Q S b c t r:Nat} (h1:A=Q*b+S) (h2:r+t*b=S*10+c):A*10+c=(Q*10+t)*b+r:=by
 rw[h1,Nat.add_mul,Nat.add_mul,Nat.mul_assoc,Nat.mul_assoc,Nat.mul_comm b 10];omega
theorem Wn {S b c:Nat} (h1:S<b) (h2:c<=9):S*10+c<10*b:=by omega
theorem SZ {t r b R:Nat} (h:r+t*b=R) (hR:R<10*b) (hr:b<=r):t+1<=9/\(r-b)+(t+1)*b=R:=by
 have e:(t+1)*b=t*b+b:=Nat.succ_mul t b;refine⟨?_,by omega⟩
 rcases Nat.lt_or_ge t 9 with h9 | h9
 · omega
 · have:9*b<=t*b:=Nat.mul_le_mul_right _ h9;omega
theorem Ta {a b Q S:Nat} (h:a=Q*b+S) (hs:S<b):Q=a/b/\S=a%b:=by
 subst h;constructor
 · rw[Nat.add_comm,Nat.add_mul_div_right _ _ (by omega),Nat.div_eq_of_lt hs,Nat.zero_add]
 · rw[Nat.add_comm,Nat.add_mul_mod_self_right,Nat.mod_eq_of_lt hs]
theorem Tb (a b:Nat) (w:World) (ha:(num a).size<=9000) (aF:18<(num a).size) (aj:b≠0) (h:b<=a) :
 Calls Tryz.prog 111 #[.string (num a),.string (num b)] w fun e w'=>e=.returned (.tuple #[.string (num (a/b)),.string (num (a%b))])/\Below w.heap.size w w':=by
 obtain⟨i0,hi,aw,ax,ay⟩:=info_parts UG;have hb:=El h;have aI:=Gi b;have c1:=Ff a b w (by omega) (by omega);obtain⟨c,hc,aA,aB⟩:=Kk h;rw[<-hc]at c1;have aG:((num b).size:Int)-1=(((num b).size-1:Nat):Int):=by omega
 have aH:(num b).size-1<=(num a).size:=by omega
 have HS:=zh (SX a b aj);have HD:Hid (∀c∈(num a).data.toList,AE c):=by unfold Hid;rw[Bl];exact A7 a
 have HV:Hid (A5 ((num a).data.toList.take (num a).size)=a):=by
  unfold Hid;rw[List.take_of_length_le (by rw[BL,Bl];exact Nat.le_refl _),Bl,Au]
 replace aj:=zh aj;clear hc h;go_enter Tryz.func111,Tryz.ntmps111
 go_wp2_with fail
 refine c1.mono ?_;rintro e w1 ⟨rfl,rfl⟩;clear c1
 go_wp2_with (at_make;refine wpList_make_own _ rfl _ _ 150 rfl w.heap.size 5 i0 (.int .u8 0) 1 Tryz.underlying150 hi aw ax _ _ _ (num a).size rfl rfl (by omega) (by rw[ay];omega) (by unfold maxLen;omega) (Nat.le_refl _) ?_;intro w1 ad ag)
 have h0:OwnB w.heap.size w1 (.slice (some ⟨w.heap.size,0,none⟩) 0 (num a).size) []:=ad;have af:Below w.heap.size w w1:=(Below.refl _ _).grown ag (Nat.le_refl _) (fun k e=>by cases e);replace h0:=zh h0;replace af:=zh af;clear ad ag
 go_loopw [6,7,8] (fun v r i wr=>∃(k:Nat) (s:ByteArray),(num b).size<=k+1/\k<=(num a).size/\i=.int .i64 (k:Int)/\r=.string s/\UH w a b k v s wr) (fun _ _ i _=>(num a).size-(intOf i).toNat)
 case atStart =>
  refine⟨(num b).size-1,_,by omega,by omega,rfl,rfl,[],fun _ h=>absurd h (by simp),?_,?_,by simp,?_,?_,.inl (by omega),h0.out,af.out⟩
  · rw[HS.out.1];exact fun c hc=>HD.out c (List.mem_of_mem_take hc)
  · rw[Lib.size_eq,HS.out.1];simp;omega
  · unfold val;rw[HS.out.1];simp[A5]
  · unfold val;rw[HS.out.1];exact HS.out.2
 case round =>
  obtain⟨k,s,aJ,hk,rfl,rfl,qs,z1,z2,z3,z4,z5,z6,z7,z8,z9⟩:=hrel;clear h0 af;have au:=z9.size
  by_cases hlt:k<(num a).size
  · have am:=PR hlt z2 HD.out;have ct:=EP (s++(num a).extract k (k+1)) wr (by omega) (by omega) am.2.1;obtain⟨c,hc⟩:∃c,c=(num a)[k].toNat-48:=⟨_,rfl⟩
    have aq:AE ((num a)[k]):=HD.out _ (by
     have:(num a)[k]=(num a).data.toList[k]'(by simpa using hlt):=rfl;rw[this];exact List.getElem_mem _)
    have aC:c<=9:=by have:=aq.2;omega
    have hR:A5 (s++(num a).extract k (k+1)).data.toList=val s*10+c:=by
     rw[am.1,Br,hc];simp[A5,val]
    rw[hR]at ct;have hA:=EO (num a) k hlt;rw[<-hc]at hA;have ai:=Wn z6 aC;obtain⟨R,ah⟩:∃R,R=val s*10+c:=⟨_,rfl⟩;rw[<-ah]at ct ai
    have HN:Hid (∀(t r:Nat) (d:Int) v2 w2,r+t*b=R->r<b->t<=9->d=48+(t:Int)->w2.ownsRow w.heap.size 5 1 v2 (qs.length+1) (Lib.byteCells qs++[Value.int .u8 d])->Below w.heap.size w w2->(num r).size<=20000->UH w a b (k+1) v2 (num r) w2):=by
     intro t r d v2 w2 h1 h2 h3 h4 ho az av;refine⟨qs++[UInt8.ofNat (48+t)],?_,by rw[Bl];exact A7 r,av,by simp;omega,?_,by rw[AZ];exact h2,.inr ⟨by rw[AZ],by simp⟩,?_,az⟩
     · intro x hx
       rcases List.mem_append.1 hx with h | h
       · exact z1 x h
       · simp at h;subst h;unfold AE;have:=AX t (by omega);rw[show (48+UInt8.ofNat t:UInt8)=UInt8.ofNat (48+t) from by simp] ;omega
     · rw [hA,Br,AZ]
       have e:A5 [UInt8.ofNat (48+t)]=t:=by
        have:=AX t (by omega);simp only[A5,List.foldl_cons,List.foldl_nil];omega
       rw[e];simp only[List.length_cons,List.length_nil];exact SY z5 (by rw[h1,ah])
     · unfold OwnB;rw[<-Iv,List.length_append,AX t (by omega)];have e:((48+t:Nat):Int)=d:=by omega
       rw[e];exact ho
    have HO:Hid (OwnB w.heap.size wr u6 qs):=z8;have HB:=zh z9;have HL:Hid (qs.length<=k):=z4;have HR:=zh ai;clear z1 z2 z4 z5 z6 z7 z8 z9 am hR hA ai aq hc ah;have aK:((k:Int)+1).toNat=k+1:=by omega
    go_wp2_with fail
    refine ct.mono ?_;rintro e w2 ⟨rfl,rfl⟩;clear ct;go_wp2;obtain⟨wo,rfl⟩:∃wo:World,wo=wr:=⟨_,rfl⟩
    go_loopw [7,9] (fun r d wr=>∃t r':Nat,t<=9/\r=.string (num r')/\d=.int .u8 (48+(t:Int))/\V6 w R b qs u6 t r' wr) (fun _ d _=>57-(intOf d).toNat)
    case atStart=>exact⟨0,R,by omega,rfl,rfl,by simp,HO.out,HB.out⟩
    case round =>
     obtain⟨t,r',ht,rfl,rfl,y1,y2,y3⟩:=hrel
     have aE:(num r').size<=10000:=by
      have h1:=El (show r'<=R by omega);have h2:=HR.out
      have h3:(num R).size<=(num b).size+1:=by
       rw[BL];refine AI ?_ (by omega);have:=Bw b;rw[Nat.pow_succ];omega
      omega
     have cm:=PM r' b wr aE;have co:=Ff r' b wr (by omega) (by omega);have au:=y3.size;replace y1:=zh y1;replace y3:=zh y3
     by_cases hlt2:r'<b
     · rw[Cv hlt2]at co;have HQ:Hid (wr.ownsRow w.heap.size 5 1 u6 qs.length (Lib.byteCells qs)):=y2;replace hlt2:=zh hlt2;clear y2 cm
       go_wp2_with fail
       refine co.mono ?_;rintro e w2 ⟨rfl,rfl⟩;clear co
       go_wp2_with (at_builtin;refine wpList_append_own _ rfl _ _ 150 rfl w.heap.size 5 i0 (.int .u8 0) 1 1 Tryz.underlying150 hi aw ax ay rfl (by decide) u6 qs.length (Lib.byteCells qs) rfl (HQ.out.alloc _) ⟨wr.heap.size,0,none⟩ 1 1 [.int .u8 (48+(t:Int))] rfl rfl (Cj _ _ _) (BP _ _) (by have:=HL.out;unfold maxLen;omega) (by have:=HL.out;omega) (by simp;omega) ?_;intro v2 w2 an ar _)
       exact⟨⟨k+1,num r',by omega,by omega,by go_num,rfl,HN.out t r' _ v2 w2 y1.out hlt2.out ht rfl an ((y3.out.alloc (by omega) _).grown ar (by simp;omega) (fun b e=>(HQ.out.lt b e).1)) (by omega)⟩,by simp only[intOf];omega⟩
     · have al:b<=r':=by omega
       obtain⟨c,hc,aA,aB⟩:=Kk al;rw[<-hc]at co;have aa:=zh (SZ y1.out HR.out al);have cm:=cm al;replace y2:=zh y2;clear hc hlt2
       go_wp2_with fail
       refine co.mono ?_;rintro e w2 ⟨rfl,rfl⟩;clear co
       go_wp2_with fail
       refine cm.mono ?_;rintro e w2 ⟨rfl,ae⟩;replace ae:=zh ae;clear cm;go_wp2;refine⟨⟨t+1,r'-b,aa.out.1,rfl,by go_num,aa.out.2,y2.out.below ae.out,y3.out.trans (ae.out.mono au)⟩,?_⟩;have:=aa.out.1;simp only[intOf];omega
  · obtain rfl:k=(num a).size:=by omega
    have ao:s=num (val s)/\qs≠[]:=by
     rcases z7 with h | h
     · omega
     · exact h
    have ak:=Ta (a:=a) (by rw[<-z5];exact HV.out.symm) z6;have ht:=z8.text;have aD:0<qs.length:=List.length_pos_iff.2 ao.2;have ct:=EP ⟨qs.toArray⟩ wr (by simp[ByteArray.size];omega) (by simp[ByteArray.size];omega) (by simpa using z1);have e:(⟨qs.toArray⟩:ByteArray).data.toList=qs:=rfl;rw[e,ak.1]at ct;have HF:Hid (s=num (a%b)):=by unfold Hid;rw[<-ak.2];exact ao.1
    have HB:=zh z9;clear z1 z2 z4 z5 z6 z7 z8 z9 ao ak aD e
    go_wp2_with fail
    refine ct.mono ?_;rintro e w2 ⟨rfl,rfl⟩;go_wp2;go_ret2;exact⟨by rw[HF.out];rfl,HB.out⟩
theorem L4 (a b:Nat) (w:World) (ha:(num a).size<=9000) (hb:(num b).size<=9000) (d:b≠0) :
 Calls Tryz.prog 111 #[.string (num a),.string (num b)] w fun e w'=>e=.returned (.tuple #[.string (num (a/b)),.string (num (a%b))])/\Below w.heap.size w w':=by
 rcases Nat.lt_or_ge a b with h | h
 · refine(PQ a b w (by omega) (by omega) h).mono ?_;rintro e w' ⟨rfl,rfl⟩;exact⟨rfl,Below.refl _ _⟩
 · by_cases h18:(num a).size<=18
   · refine(No a b w h18 d h).mono ?_;rintro e w' ⟨rfl,rfl⟩;exact⟨rfl,Below.refl _ _⟩
   · exact Tb a b w ha (by omega) d h
def V7 (G:Nat) (w:World) (g:Nat) (v u:Value) (wr:World):Prop :=
 ∃k:Nat,v=.string (num k)/\u=.string (num g)/\Nat.gcd k g=G/\(num k).size<=9000/\(num g).size<=9000/\Below w.heap.size w wr
theorem GV (g:Nat):((num g).toList==[48])=decide (g=0):=by
 rw[Lib.toList_data,Bl,Bool.eq_iff_iff,beq_iff_eq,decide_eq_true_iff];constructor
 · intro e;have:=congrArg A5 e;rw[Au]at this;rw[this];rfl
 · intro e;subst e;rw[Lib.decDigits_one (by omega)];rfl
theorem Np (a b:Nat) (w:World) (ha:(num a).size<=9000) (hb:(num b).size<=9000) :
 Calls Tryz.prog 110 #[.string (num a),.string (num b)] w fun e w'=>e=.returned (.string (num (Nat.gcd a b)))/\Below w.heap.size w w':=by
 go_enter Tryz.func110,Tryz.ntmps110;go_wp2
 go_loopg [0,1] b (fun g v u wr=>V7 (Nat.gcd a b) w g v u wr)
 case atStart=>exact⟨a,rfl,rfl,rfl,ha,hb,Below.refl _ _⟩
 case round =>
  obtain⟨k,rfl,rfl,h3,h4,h5,h6⟩:=hrel;have h:=h6.size;have hz:=GV gk
  by_cases hg:gk=0
  · rw[decide_eq_true hg]at hz;have HF:Hid (num k=num (Nat.gcd a b)):=by unfold Hid;rw[<-h3,hg,Nat.gcd_zero_right]
    replace h6:=zh h6;clear h3 hg;go_wp2;go_ret;exact⟨Gg HF.out,h6.out⟩
  · rw [decide_eq_false hg]at hz;have hc:=L4 k gk wr h4 h5 hg;replace h3:=zh h3;replace h6:=zh h6;replace hg:=zh hg
    go_wp2_with fail
    refine hc.mono ?_;rintro e w2 ⟨rfl,d⟩;replace d:=zh d;clear hc;go_wp2
    go_roundg (k%gk)
    case measure=>exact Nat.mod_lt _ (by have:=hg.out;omega)
    case rel =>
     refine⟨gk,rfl,rfl,?_,h5,?_,h6.out.trans (d.out.mono h)⟩
     · rw[<-h3.out,Nat.gcd_comm gk,<-Nat.gcd_rec,Nat.gcd_comm]
     · exact Nat.le_trans (El (Nat.le_of_lt (Nat.mod_lt k (by have:=hg.out;omega)))) h5
end Nt
end
section
open Go.RowKit Go.Shelf
namespace Nt
theorem AW {n:Nat} (h:n<Lim):(num n).size<=300:=by
 have:=AI (k:=mxd) h (by rw[C9];omega);rw[BL,<-C9];exact this
theorem V8 (a b:Nat) (w:World) (ha:a<Lim) (hb:b<Lim) (h:(num (a+b)).size<=1000) :
 Calls Tryz.prog 122 #[.string (num a),.string (num b)] w fun e w'=>e=.returned (.tuple #[.string (Fh (a+b)),.int .i64 (Fi (a+b))])/\Below w.heap.size w w':=by
 have c1:=SW a b w (by have:=AW ha;omega) (by have:=AW hb;omega);have i1:=Cd (num a) w (by have:=AW ha;omega);have i2:=Cd (num b) w (by have:=AW hb;omega);rw[Ct ha]at i1;rw[Ct hb]at i2;have c2:=fun W=>EQ (a+b) W (by omega);go_enter Tryz.func122,Tryz.ntmps122
 go_wp2_with fail
 refine i1.mono ?_;rintro e w' ⟨rfl,rfl⟩
 go_wp2_with fail
 refine i2.mono ?_;rintro e w' ⟨rfl,rfl⟩;clear i1 i2
 go_wp2_with fail
 refine(c1).mono ?_;rintro e w1 ⟨rfl,d⟩;replace d:=zh d
 go_wp2_with fail
 refine(c2 _).mono ?_;rintro e w2 ⟨rfl,rfl⟩;clear c1 c2;go_wp2;go_ret2;exact⟨rfl,d.out⟩
theorem Nq (a b:Nat) (w:World) (ha:a<Lim) (hb:b<Lim) (h:(num (a*b)).size<=1000) :
 Calls Tryz.prog 61 #[.string (num a),.string (num b)] w fun e w'=>e=.returned (.tuple #[.string (Fh (a*b)),.int .i64 (Fi (a*b))])/\Below w.heap.size w w':=by
 have c1:=PP a b w (by have:=AW ha;omega) (by have:=AW hb;omega);have i1:=Cd (num a) w (by have:=AW ha;omega);have i2:=Cd (num b) w (by have:=AW hb;omega);rw[Ct ha]at i1;rw[Ct hb]at i2;have c2:=fun W=>EQ (a*b) W (by omega);go_enter Tryz.func61,Tryz.ntmps61
 go_wp2_with fail
 refine i1.mono ?_;rintro e w' ⟨rfl,rfl⟩
 go_wp2_with fail
 refine i2.mono ?_;rintro e w' ⟨rfl,rfl⟩;clear i1 i2
 go_wp2_with fail
 refine(c1).mono ?_;rintro e w1 ⟨rfl,d⟩;replace d:=zh d
 go_wp2_with fail
 refine(c2 _).mono ?_;rintro e w2 ⟨rfl,rfl⟩;clear c1 c2;go_wp2;go_ret2;exact⟨rfl,d.out⟩
theorem Nr (a b:Nat) (w:World) (ha:a<Lim) (hb:b<Lim) :
 Calls Tryz.prog 59 #[.string (num a),.string (num b)] w fun e w'=>e=.returned (.tuple #[.string (num (Nat.gcd a b)),.int .i64 0])/\Below w.heap.size w w':=by
 have c1:=Np a b w (by have:=AW ha;omega) (by have:=AW hb;omega);have i1:=Cd (num a) w (by have:=AW ha;omega);have i2:=Cd (num b) w (by have:=AW hb;omega);rw[Ct ha]at i1;rw[Ct hb]at i2;go_enter Tryz.func59,Tryz.ntmps59
 go_wp2_with fail
 refine i1.mono ?_;rintro e w' ⟨rfl,rfl⟩
 go_wp2_with fail
 refine i2.mono ?_;rintro e w' ⟨rfl,rfl⟩;clear i1 i2
 go_wp2_with fail
 refine(c1).mono ?_;rintro e w1 ⟨rfl,d⟩;replace d:=zh d;clear c1;go_wp2;go_ret2;exact⟨rfl,d.out⟩
theorem Ns (a b:Nat) (w:World) (ha:a<Lim) (hb:b<Lim) (h:b≠0) :
 Calls Tryz.prog 60 #[.string (num a),.string (num b)] w fun e w'=>e=.returned (.tuple #[.string (num (a/b)),.string (num (a%b)),.int .i64 0])/\Below w.heap.size w w':=by
 have c1:=L4 a b w (by have:=AW ha;omega) (by have:=AW hb;omega) h;have hz:=GV b;rw[decide_eq_false h]at hz;replace h:=zh h;have i1:=Cd (num a) w (by have:=AW ha;omega);have i2:=Cd (num b) w (by have:=AW hb;omega);rw[Ct ha]at i1;rw[Ct hb]at i2;go_enter Tryz.func60,Tryz.ntmps60
 go_wp2_with fail
 refine i1.mono ?_;rintro e w' ⟨rfl,rfl⟩
 go_wp2_with fail
 refine i2.mono ?_;rintro e w' ⟨rfl,rfl⟩;clear i1 i2
 go_wp2_with fail
 refine(c1).mono ?_;rintro e w1 ⟨rfl,d⟩;replace d:=zh d;clear c1;go_wp2
 go_ret3
 exact⟨rfl,d.out⟩
end Nt
end
section
open Go.RowKit Go.Shelf
namespace Nt
theorem V9 (a b:Nat) (w:World) (ha:a<Lim) (hb:b<Lim):Calls Tryz.prog 59 #[.string (T (some a)),.string (T (some b))] w fun e w'=>e=.returned (.tuple #[.string (T (some (Nat.gcd a b))),.int .i64 0])/\Below w.heap.size w w':=Nr a b w ha hb
theorem W8 (a b:Nat) (w:World) (ha:a<Lim) (hb:b<Lim) (h:b≠0):Calls Tryz.prog 60 #[.string (T (some a)),.string (T (some b))] w fun e w'=>e=.returned (.tuple #[.string (T (some (a/b))),.string (T (some (a%b))),.int .i64 0])/\Below w.heap.size w w':=Ns a b w ha hb h
theorem W9 (a b:Nat) (w:World) (ha:a<Lim) (hb:b<Lim) (h:a*b<Lim):Calls Tryz.prog 61 #[.string (T (some a)),.string (T (some b))] w fun e w'=>e=.returned (.tuple #[.string (T (some (a*b))),.int .i64 0])/\Below w.heap.size w w':=by
 have:=Nq a b w ha hb (by have:=AW h;omega);unfold Fh Fi at this;rw[if_pos h,if_pos h]at this;exact this
theorem ris (s:ByteArray) (b:Bool) (h:isN s=b) (w:World) (hs:s.size<=140737488355328):Calls Tryz.prog 109 #[.string s] w fun e w'=>e=.returned (.bool b)/\w=w':=by
 have:=Cd s w hs
 rwa [h]at this
theorem Kl (g:Bool) (n d:ByteArray) (w:World) (hn:n.size<=140737488355328) (h:isN n=false) :
 Calls Tryz.prog 58 #[.agg #[.bool g,.string n,.string d]] w fun e w'=>e=.returned (.bool false)/\Below w.heap.size w w':=by
 replace h:=zh h;go_enter Tryz.func58,Tryz.ntmps58
 go_wp2_with fail
 refine(ris n false h.out _ hn).mono ?_;rintro e w1 ⟨rfl,rfl⟩;go_wp2;go_ret;exact⟨rfl,BG w _ _ _⟩
theorem Km (g:Bool) (n d:ByteArray) (w:World) (hn:n.size<=140737488355328) (hd:d.size<=140737488355328) (h:isN n=true) (h2:isN d=false) :
 Calls Tryz.prog 58 #[.agg #[.bool g,.string n,.string d]] w fun e w'=>e=.returned (.bool false)/\Below w.heap.size w w':=by
 replace h:=zh h;replace h2:=zh h2;go_enter Tryz.func58,Tryz.ntmps58
 go_wp2_with fail
 refine(ris n true h.out _ hn).mono ?_;rintro e w1 ⟨rfl,rfl⟩
 go_wp2_with fail
 refine(ris d false h2.out _ hd).mono ?_;rintro e w1 ⟨rfl,rfl⟩;go_wp2;go_ret;exact⟨rfl,BG w _ _ _⟩
theorem Kn (g:Bool) (a:Nat) (w:World) (ha:a<Lim) :
 Calls Tryz.prog 58 #[.agg #[.bool g,.string (T (some a)),.string (T (some 0))]] w fun e w'=>e=.returned (.bool false)/\Below w.heap.size w w':=by
 have hb:0<Lim:=by omega
 have ia:=zh (C4 (Ah ha));have za:=zh (B0 (Ah ha));have ib:=zh (C4 (Ah hb));have zb:=zh (B0 (Ah hb));have z:=AC 0;rw[decide_eq_true rfl]at z;go_enter Tryz.func58,Tryz.ntmps58
 go_wp2_with fail
 refine(ris _ true ia.out _ za.out).mono ?_;rintro e w1 ⟨rfl,rfl⟩
 go_wp2_with fail
 refine(ris _ true ib.out _ zb.out).mono ?_;rintro e w1 ⟨rfl,rfl⟩;go_wp2;go_ret;exact⟨rfl,BG w _ _ _⟩
theorem Ko (b:Nat) (w:World) (hb:b<Lim) (a:b≠0) :
 Calls Tryz.prog 58 #[.agg #[.bool true,.string (T (some 0)),.string (T (some b))]] w fun e w'=>e=.returned (.bool false)/\Below w.heap.size w w':=by
 have ha:0<Lim:=by omega
 have ia:=zh (C4 (Ah ha));have za:=zh (B0 (Ah ha));have ib:=zh (C4 (Ah hb));have zb:=zh (B0 (Ah hb));have z:=AC 0;rw[decide_eq_true rfl]at z;have z2:=AC b;rw[decide_eq_false a]at z2;replace a:=zh a;go_enter Tryz.func58,Tryz.ntmps58
 go_wp2_with fail
 refine(ris _ true ia.out _ za.out).mono ?_;rintro e w1 ⟨rfl,rfl⟩
 go_wp2_with fail
 refine(ris _ true ib.out _ zb.out).mono ?_;rintro e w1 ⟨rfl,rfl⟩;go_wp2;go_ret;exact⟨rfl,BG w _ _ _⟩
theorem Fs (a b:Nat) (w:World) (ha:a<Lim) (hb:b<Lim) (d:b≠0) :
 Calls Tryz.prog 58 #[.agg #[.bool false,.string (T (some a)),.string (T (some b))]] w fun e w'=>e=.returned (.bool (decide (Nat.gcd a b=1)))/\Below w.heap.size w w':=by
 have ia:=zh (C4 (Ah ha));have za:=zh (B0 (Ah ha));have ib:=zh (C4 (Ah hb));have zb:=zh (B0 (Ah hb));have z2:=AC b;rw[decide_eq_false d]at z2;have z3:=FH (Nat.gcd a b);replace d:=zh d;go_enter Tryz.func58,Tryz.ntmps58
 go_wp2_with fail
 refine(ris _ true ia.out _ za.out).mono ?_;rintro e w1 ⟨rfl,rfl⟩
 go_wp2_with fail
 refine(ris _ true ib.out _ zb.out).mono ?_;rintro e w1 ⟨rfl,rfl⟩
 go_wp2_with fail
 refine(V9 a b _ ha hb).mono ?_;rintro e w1 ⟨rfl,h⟩;have aa:=zh ((BG w false (T (some a)) (T (some b))).trans (h.mono (by simp)));clear h;go_wp2;go_ret;exact⟨rfl,aa.out⟩
theorem ID (a b:Nat) (w:World) (ha:a<Lim) (hb:b<Lim) (h:b≠0) (d:a≠0) :
 Calls Tryz.prog 58 #[.agg #[.bool true,.string (T (some a)),.string (T (some b))]] w fun e w'=>e=.returned (.bool (decide (Nat.gcd a b=1)))/\Below w.heap.size w w':=by
 have ia:=zh (C4 (Ah ha));have za:=zh (B0 (Ah ha));have ib:=zh (C4 (Ah hb));have zb:=zh (B0 (Ah hb));have z2:=AC b;rw[decide_eq_false h]at z2;have z3:=FH (Nat.gcd a b);replace h:=zh h;have z:=AC a;rw[decide_eq_false d]at z;replace d:=zh d;go_enter Tryz.func58,Tryz.ntmps58
 go_wp2_with fail
 refine(ris _ true ia.out _ za.out).mono ?_;rintro e w1 ⟨rfl,rfl⟩
 go_wp2_with fail
 refine(ris _ true ib.out _ zb.out).mono ?_;rintro e w1 ⟨rfl,rfl⟩
 go_wp2_with fail
 refine(V9 a b _ ha hb).mono ?_;rintro e w1 ⟨rfl,aa⟩;have ad:=zh ((BG w true (T (some a)) (T (some b))).trans (aa.mono (by simp)));clear aa;go_wp2;go_ret;exact⟨rfl,ad.out⟩
theorem L5 (g:Bool) (n d:ByteArray) (w:World) (hn:n.size<=140737488355328) (hd:d.size<=140737488355328) :
 Calls Tryz.prog 58 #[.agg #[.bool g,.string n,.string d]] w fun e w'=>e=.returned (.bool (Ax g n d))/\Below w.heap.size w w':=by
 cases h1:isN n with
 | false =>
   have e:Ax g n d=false:=by unfold Ax;rw[h1];rfl
   rw[e];exact Kl g n d w hn h1
 | true =>
   cases h2:isN d with
   | false =>
     have e:Ax g n d=false:=by unfold Ax;rw[h1,h2];rfl
     rw[e];exact Km g n d w hn hd h1 h2
   | true =>
     obtain⟨a,ha,rfl⟩:=BF h1;obtain⟨b,hb,rfl⟩:=BF h2;rw[EX g a b ha hb]
     by_cases hb0:b=0
     · subst hb0;simp only[decide_true,Bool.not_true,Bool.false_and];exact Kn g a w ha
     · rw [decide_eq_false hb0,Bool.not_false,Bool.true_and]
       by_cases ha0:a=0
       · rw [if_pos ha0];subst ha0
         cases g with
         | true=>exact Ko b w hb hb0
         | false =>
           have e:(!false&&decide (b=1))=decide (Nat.gcd 0 b=1):=by
            rw[Bool.not_false,Bool.true_and];exact decide_eq_decide.2 (by rw[Nat.gcd_zero_left])
           rw[e];exact Fs 0 b w ha hb hb0
       · rw[if_neg ha0]
         cases g with
         | true=>exact ID a b w ha hb hb0 ha0
         | false=>exact Fs a b w ha hb hb0
end Nt
end
section
open Go.RowKit Go.Shelf
namespace Bd
open Nt Ci Sh
theorem J0 (A:Option Addr) (ca:Nat) (l:List Raw) (w:World) (hl:InRow w A l) (aH:l.length<=140737488355328) (aw:∀k (h:k<l.length),l[k].2.1.size<=140737488355328/\l[k].2.2.size<=140737488355328) :
 Calls Tryz.prog 24 #[.slice A l.length ca] w fun e w'=>e=.returned (.bool (Cg l))/\Below w.heap.size w w':=by
 have ax:Hid (Below w.heap.size w w):=Below.refl _ _;have ao:Hid (Cg l=Ew 1 (l.drop 0)):=rfl;have aC:Hid (0<1/\1<10^65):=⟨by decide,Nat.one_lt_pow (by decide) (by decide)⟩;replace hl:=zh hl;replace aw:=zh aw;generalize Cg l=fin at ao ⊢;have az:Value.string ⟨#[49]⟩=.string (T (some 1)):=by kernel_rfl
 go_enter Tryz.func24,Tryz.ntmps24;go_wp2
 go_loopw [3,4] (fun mv ix wr=>∃(k m:Nat),k<=l.length/\ix=.int .i64 (k:Int)/\mv=.string (T (some m))/\Hid (fin=Ew m (l.drop k))/\Hid (0<m/\m<10^65)/\Hid (Below w.heap.size w wr)) (fun _ ix _=>l.length-(intOf ix).toNat)
 case atStart=>exact⟨0,1,Nat.zero_le _,rfl,az,ao,aC,ax⟩
 case round =>
  clear ao aC ax az;obtain⟨k,m,hk,rfl,rfl,hI,hm,hB⟩:=hrel;obtain⟨wz,rfl⟩:∃z,z=wr:=⟨_,rfl⟩;have j0:(0:Int)<=(k:Int):=by omega
  by_cases hlt:k<l.length
  · have j1 : (k:Int)<(l.length:Int):=by omega
    obtain⟨b,o,rfl,ad,hc⟩:=hl.out (by omega);obtain⟨e0,e1,e2⟩:=hc k hlt;have hs:=aw.out k hlt;have hdr:l.drop k=l[k]::l.drop (k+1):=List.drop_eq_getElem_cons hlt;rw[hdr]at hI;have aG:∀x:Raw,DA x=Ax x.1 x.2.1 x.2.2:=fun _=>rfl;obtain⟨x,hx⟩:∃x,x=l[k]:=⟨_,rfl⟩;rw[<-hx]at e0 e1 e2 hs hI;obtain⟨gg,nn,dd⟩:=x;dsimp only at e0 e1 e2 hs;obtain⟨vb,al⟩:∃r,r=Ax gg nn dd:=⟨_,rfl⟩;have aa:Hid (DA (gg,nn,dd)=vb):=al.symm;have kv:Hid (∀W,Calls Tryz.prog 58 #[.agg #[.bool gg,.string nn,.string dd]] W fun e w'=>e=.returned (.bool vb)/\Below W.heap.size W w'):=fun W=>by rw[al];exact L5 gg nn dd W hs.1 hs.2
    have hT:Hid (∀W,Below w.heap.size w W->b<W.heap.size/\W.cell? ⟨b,o+k*3,none⟩=some (.bool gg)/\W.cell? ⟨b,o+k*3+1,none⟩=some (.string nn)/\W.cell? ⟨b,o+k*3+2,none⟩=some (.string dd)):=fun W h=>⟨Nat.lt_of_lt_of_le ad h.size,(h.cell (p:=⟨b,o+k*3,none⟩) ad).trans e0,(h.cell (p:=⟨b,o+k*3+1,none⟩) ad).trans e1,(h.cell (p:=⟨b,o+k*3+2,none⟩) ad).trans e2⟩;replace al:=zh al;replace hx:=zh hx;replace hs:=zh hs;clear hc hdr aG e0 e1 e2 ad;obtain⟨t9,t0,t1,t2⟩:=hT.out wz hB.out
    go_wp2_with fail
    refine(kv.out _).mono ?_;rintro e w2 ⟨rfl,hb⟩;have a:=zh (hB.out.trans (hb.mono hB.out.size));clear hb hB kv t9 t0 t1 t2;obtain⟨t9,t0,t1,t2⟩:=hT.out w2 a.out
    cases vb with
    | false =>
      have hf:fin=false:=by rw[hI.out];unfold Ew;rw[aa.out];rfl
      subst hf;go_wp2;go_ret;exact⟨rfl,a.out⟩
    | true =>
      cases gg with
      | true =>
        have hf:fin=false:=by rw[hI.out];unfold Ew;rw[aa.out];rfl
        subst hf;go_wp2;go_ret;exact⟨rfl,a.out⟩
      | false =>
        have hq:=EF (x:=(false,nn,dd)) (by exact aa.out);obtain⟨q,ak⟩:∃q,q=vq (false,nn,dd):=⟨_,rfl⟩;rw[<-ak]at hq;have d:dd=T (some q.den):=(congrArg (·.2.2) hq.1).symm;have aj:q.den<Lim:=hq.2.2
        have ah:Hid (fin=(decide (nn.size<=65)&&(decide (dd.size<=65)&&(decide ((T (some (Bc m q.den))).size<=65)&&Ew (Bc m q.den) (l.drop (k+1)))))):=by
         rw[hI.out,Gu,aa.out,<-ak,Bool.true_and];exact Bool.true_and _
        have aD:Hid (0<q.den):=q.den_pos;replace hq:=zh hq;replace ak:=zh ak;clear hI aa
        by_cases h1:65<nn.size
        · have hf:fin=false:=by rw[ah.out,decide_eq_false (by omega)];rfl
          subst hf;have m1:decide ((65:Int)<(nn.size:Int))=true:=decide_eq_true (by omega);have m2:decide (65<nn.size)=true:=decide_eq_true (by omega);replace h1:=zh h1;go_wp2;go_ret;exact⟨rfl,a.out⟩
        · have m1:decide ((65:Int)<(nn.size:Int))=false:=decide_eq_false (by omega);have m2:decide (65<nn.size)=false:=decide_eq_false (by omega)
          by_cases h1d:65<dd.size
          · have hf:fin=false:=by rw[ah.out,decide_eq_false (p:=dd.size<=65) (by omega)];simp
            subst hf;have m3:decide ((65:Int)<(dd.size:Int))=true:=decide_eq_true (by omega);have m4:decide (65<dd.size)=true:=decide_eq_true (by omega);replace h1:=zh h1;replace d:=zh d;replace h1d:=zh h1d;go_wp2;go_ret;exact⟨rfl,a.out⟩
          · have m3:decide ((65:Int)<(dd.size:Int))=false:=decide_eq_false (by omega);have m4:decide (65<dd.size)=false:=decide_eq_false (by omega)
            have ai:Hid (fin=(decide ((T (some (Bc m q.den))).size<=65)&&Ew (Bc m q.den) (l.drop (k+1)))):=by
             rw[ah.out,decide_eq_true (by omega),decide_eq_true (p:=dd.size<=65) (by omega)];rfl
            have af:m<Lim:=Nat.lt_of_lt_of_le hm.out.2 (Nat.le_trans (Nat.le_mul_of_pos_right _ (Nat.pow_pos (by decide))) JI);have am:q.den<10^65:=(Cr (by decide)).1 (by rw[<-d];omega);have aA:0<Nat.gcd m q.den:=Nat.gcd_pos_of_pos_left _ hm.out.1;obtain⟨gd,ae⟩:∃g,g=Nat.gcd m q.den:=⟨_,rfl⟩;have aB:gd<Lim:=by rw[ae];exact EW af aj
            rw[<-ae]at aA;have av:m/gd<Lim:=Nat.lt_of_le_of_lt (Nat.div_le_self _ _) af
            have hp:Bc m q.den=m/gd*q.den:=by
             unfold Bc;rw[ae,<-Nat.mul_div_assoc _ (Nat.gcd_dvd_right m q.den),Nat.mul_comm,Nat.mul_div_assoc _ (Nat.gcd_dvd_left m q.den),Nat.mul_comm]
            have au:m/gd*q.den<Lim:=Nat.lt_of_lt_of_le (Nat.lt_of_le_of_lt (Nat.mul_le_mul_right _ (Nat.le_trans (Nat.div_le_self _ _) (Nat.le_of_lt hm.out.2))) (Nat.mul_lt_mul_of_pos_left am (Nat.pow_pos (by decide)))) JI
            have k1:Hid (∀W,Calls Tryz.prog 59 #[.string (T (some m)),.string dd] W fun e w'=>e=.returned (.tuple #[.string (T (some gd)),.int .i64 0])/\Below W.heap.size W w'):=fun W=>by
             have h:=V9 m q.den W af aj;rw[<-ae,<-d]at h;exact h
            have k2:Hid (∀W,Calls Tryz.prog 60 #[.string (T (some m)),.string (T (some gd))] W fun e w'=>e=.returned (.tuple #[.string (T (some (m/gd))),.string (T (some (m%gd))),.int .i64 0])/\Below W.heap.size W w'):=fun W=>W8 m gd W af aB (by omega)
            have k3:Hid (∀W,Calls Tryz.prog 61 #[.string (T (some (m/gd))),.string dd] W fun e w'=>e=.returned (.tuple #[.string (T (some (Bc m q.den))),.int .i64 0])/\Below W.heap.size W w'):=fun W=>by
             have h:=W9 (m/gd) q.den W av aj au;rw[<-hp,<-d]at h;exact h
            have aq:Hid (0<Bc m q.den):=Gv hm.out.1 aD.out;have ar:Hid ((T (some (Bc m q.den))).size<=65->Bc m q.den<10^65):=(Cr (by decide)).1;generalize m/gd=qd at k2 k3 hp av au;generalize Bc m q.den=mm at k3 hp ai aq ar;replace h1:=zh h1;replace h1d:=zh h1d;clear d aj aD af am aA ae aB av hp au ah
            go_wp2_with fail
            refine(k1.out _).mono ?_;rintro e w3 ⟨rfl,hb⟩;have an:=zh (a.out.trans (hb.mono a.out.size));clear hb k1 a t9 t0 t1 t2
            go_wp2_with fail
            refine(k2.out _).mono ?_;rintro e w4 ⟨rfl,hb⟩;have ag:=zh (an.out.trans (hb.mono an.out.size));clear hb k2 an;obtain⟨t9,t0,t1,t2⟩:=hT.out w4 ag.out
            go_wp2_with fail
            refine(k3.out _).mono ?_;rintro e w5 ⟨rfl,hb⟩;have ay:=zh (ag.out.trans (hb.mono ag.out.size));clear hb k3 ag t9 t0 t1 t2
            by_cases h2:65<(T (some mm)).size
            · have m5:decide ((65:Int)<((T (some mm)).size:Int))=true:=decide_eq_true (by omega);have m6:decide (65<(T (some mm)).size)=true:=decide_eq_true h2;have hf:fin=false:=by rw[ai.out,decide_eq_false (by omega)];rfl
              subst hf;replace h2:=zh h2;go_wp2;go_ret;exact⟨rfl,ay.out⟩
            · have m5:decide ((65:Int)<((T (some mm)).size:Int))=false:=decide_eq_false (by omega);have m6:decide (65<(T (some mm)).size)=false:=decide_eq_false h2;have aE:Hid (fin=Ew mm (l.drop (k+1))):=by rw[ai.out,decide_eq_true (by omega)];rfl
              have aF:Hid (0<mm/\mm<10^65):=⟨aq.out,ar.out (by omega)⟩;replace h2:=zh h2;clear ai aq ar;go_wp2;exact⟨⟨k+1,mm,by omega,by go_num,rfl,aE,aF,ay⟩,by simp only[intOf];omega⟩
  · obtain rfl:k=l.length:=by omega
    have hf:fin=true:=by rw[hI.out,List.drop_length];rfl
    subst hf;go_wp2;go_ret;exact⟨rfl,hB.out⟩
end Bd
end
end Go.Proofs.YtilodknkildkbaaGreatDoor

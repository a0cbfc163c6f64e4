/- Texts that the proof needs: NatApi, NatApi2, NatO, RatPlain, CirSound, NatWrap, RatBox, RatSum, RatSums, RatProd, RatQ, RatRun, RatOps, RatOf, RatText, RatWrap, CirWrap, CirNames, CirUnits, CirMap, CirGood7, CirGood. -/
import Derived.Test.YtmfjbpcecpgchaaGreatDoorCards
import Derived.Test.YtmfjbpcecpgchaaGreatDoorTie
import Derived.Deep.DeepWitnessRowRef
import Derived.Deep.DeepLaidRun
import Derived.Stop.LaidErr
import Derived.LaidMore
import Derived.WalkLawsBesides
import Derived.WalkSpells
import Derived.StillTailTactics
import Derived.DataShut
import Derived.Test.YtmfjbpcecpgchaaGreatDoorKeA
set_option maxHeartbeats 16000000
set_option maxRecDepth 1000000
namespace Go.Proofs.YtmfjbpcecpgchaaGreatDoor
section
open Go.RowKit Go.Shelf
namespace Nt
theorem CH(f:Nat)(k:Nat)(s t:ByteArray)(w:World)(hs:s.size<=140737488355328)(ht:t.size<=140737488355328)(hb:isN s=false\/isN t=false):
 Calls Tryz.prog 112 #[.string s,.string t,.func (.func f) #[] #[]] w (CG k s t w):=by
 have HG:=zh (JO (k:=k) hb);have c1:=B5 s w (by omega)
 cases h1:isN s with
 |false=>
  rw[h1]at c1;clear hb h1;go_enter Tryz.func112,Tryz.ntmps112
  go_wp2_with (go_at_call 111;refine c1.mono ?_;rintro e w1 ⟨rfl,a⟩)
  go_ret2;exact⟨by rw[HG.o.1,HG.o.2];rfl,a⟩
 |true=>
  have h2:isN t=false:=by rcases hb with h|h;(· rw[h1]at h;cases h);(· exact h)
  rw[h1]at c1;have H2:=zh h2;clear hb h1 h2;go_enter Tryz.func112,Tryz.ntmps112
  go_wp2_with fail
  refine c1.mono ?_;rintro e w1 ⟨rfl,a⟩;replace a:=zh a
  go_wp2_with fail
  have c2:=B5 t w1 (by omega);rw[H2.o]at c2;refine c2.mono ?_;rintro e w2 ⟨rfl,d⟩;replace d:=zh d;go_wp2;go_ret2;exact⟨by rw[HG.o.1,HG.o.2];rfl,a.o.trans (d.o.mono a.o.size)⟩
theorem T1(s t:ByteArray)(w:World)(hE:Env w)(hs:s.size<=140737488355328)(ht:t.size<=140737488355328):
 Calls Tryz.prog 120 #[.string s,.string t] w (CG (val s+val t) s t w):=by
 have hc:Calls Tryz.prog 112 #[.string s,.string t,.func (.func 159) #[] #[]] w (CG (val s+val t) s t w):=by
  cases h1:isN s with
  |false=>exact CH _ _ s t w hs ht (.inl h1)
  |true=>
   cases h2:isN t with
   |false=>exact CH _ _ s t w hs ht (.inr h2)
   |true=>exact OG s t w hE h1 h2
 go_enter Tryz.func120,Tryz.ntmps120
 go_wp2_with (go_at_call 112;refine hc.mono ?_;rintro e w1 ⟨rfl,a⟩)
 go_ret2;exact⟨rfl,a⟩
theorem T3(s t:ByteArray)(w:World)(hE:Env w)(hs:s.size<=140737488355328)(ht:t.size<=140737488355328):
 Calls Tryz.prog 69 #[.string s,.string t] w (CG (val s*val t) s t w):=by
 have hc:Calls Tryz.prog 112 #[.string s,.string t,.func (.func 117) #[] #[]] w (CG (val s*val t) s t w):=by
  cases h1:isN s with
  |false=>exact CH _ _ s t w hs ht (.inl h1)
  |true=>
   cases h2:isN t with
   |false=>exact CH _ _ s t w hs ht (.inr h2)
   |true=>exact OI s t w hE h1 h2
 go_enter Tryz.func69,Tryz.ntmps69
 go_wp2_with (go_at_call 112;refine hc.mono ?_;rintro e w1 ⟨rfl,a⟩)
 go_ret2;exact⟨rfl,a⟩
theorem T4(s t:ByteArray)(w:World)(hE:Env w)(hs:s.size<=140737488355328)(ht:t.size<=140737488355328):
 Calls Tryz.prog 67 #[.string s,.string t] w (CG (Nat.gcd (val s) (val t)) s t w):=by
 have hc:Calls Tryz.prog 112 #[.string s,.string t,.func (.func 113) #[] #[]] w (CG (Nat.gcd (val s) (val t)) s t w):=by
  cases h1:isN s with
  |false=>exact CH _ _ s t w hs ht (.inl h1)
  |true=>
   cases h2:isN t with
   |false=>exact CH _ _ s t w hs ht (.inr h2)
   |true=>exact OJ s t w hE h1 h2
 go_enter Tryz.func67,Tryz.ntmps67
 go_wp2_with (go_at_call 112;refine hc.mono ?_;rintro e w1 ⟨rfl,a⟩)
 go_ret2;exact⟨rfl,a⟩
def FS(s t:ByteArray):Int:=if isN s=true/\isN t=true then Bp (val s) (val t) else 0
def FT(s t:ByteArray):Int:=if isN s=true/\isN t=true then 0 else 1
theorem GK(s t:ByteArray)(w:World)(hE:Env w)(hs:s.size<=140737488355328)(ht:t.size<=140737488355328):
 Calls Tryz.prog 121 #[.string s,.string t] w fun e w'=>e=.returned (.tuple #[.int .i64 (FS s t),.int .i64 (FT s t)])/\Below w.heap.size w w':=by
 have c1:=B5 s w (by omega);replace hE:=zh hE
 cases h1:isN s with
 |false=>
  have HG:Hid (FS s t=0/\FT s t=1):=by unfold Hid FS FT;simp[h1]
  rw[h1]at c1;clear h1;go_enter Tryz.func121,Tryz.ntmps121
  go_wp2_with (go_at_call 111;refine c1.mono ?_;rintro e w1 ⟨rfl,h⟩)
  go_ret2;exact⟨by rw[HG.o.1,HG.o.2];rfl,h⟩
 |true=>
  cases h2:isN t with
  |false=>
   have HG:Hid (FS s t=0/\FT s t=1):=by unfold Hid FS FT;simp[h2]
   rw[h1]at c1;have H2:=zh h2;clear h1 h2;go_enter Tryz.func121,Tryz.ntmps121
   go_wp2_with fail
   refine c1.mono ?_;rintro e w1 ⟨rfl,h⟩;replace h:=zh h
   go_wp2_with fail
   have c2:=B5 t w1 (by omega);rw[H2.o]at c2;refine c2.mono ?_;rintro e w2 ⟨rfl,d⟩;replace d:=zh d;go_wp2;go_ret2;exact⟨by rw[HG.o.1,HG.o.2];rfl,h.o.trans (d.o.mono h.o.size)⟩
  |true=>
   have HG:Hid (FS s t=Bp (val s) (val t)/\FT s t=0):=by unfold Hid FS FT;simp[h1,h2]
   rw[h1]at c1;have H1:=zh h1;have H2:=zh h2;clear h1 h2;go_enter Tryz.func121,Tryz.ntmps121
   go_wp2_with fail
   refine c1.mono ?_;rintro e w1 ⟨rfl,h⟩;have aa:=zh h;clear h
   go_wp2_with fail
   have c2:=B5 t w1 (by omega);rw[H2.o]at c2;refine c2.mono ?_;rintro e w2 ⟨rfl,d⟩;have a:=zh (aa.o.trans (d.mono aa.o.size));clear d c1 c2 aa
   go_wp2_with fail
   refine(Bu s w2 H1.o).mono ?_;rintro e w3 ⟨v1,rfl,ae,_,ag⟩;have ad:=zh (a.o.trans (ag.mono a.o.size));replace ae:=zh ae;clear ag a
   go_wp2_with fail
   refine(Bu t w3 H2.o).mono ?_;rintro e w4 ⟨v2,rfl,af,_,d⟩;have a:=zh (ad.o.trans (d.mono ad.o.size));replace d:=zh d;replace af:=zh af;clear ad
   go_wp2_with fail
   refine(EN w4 v1 v2 (val s) (val t) (ae.o.below d.o) af.o (BA (B9 H1.o)) (by have:=a.o.size;have:=hE.o.pos;omega)).mono ?_;rintro e w5 ⟨rfl,ah⟩;have ai:=zh (a.o.trans (ah.mono a.o.size));clear ah a d ae af;go_wp2;go_ret2;exact⟨by rw[HG.o.1,HG.o.2];rfl,ai.o⟩
def IJ(s t:ByteArray):ByteArray:=if isN s=true/\isN t=true/\val t<=val s then num (val s-val t) else ⟨#[]⟩
def IK(s t:ByteArray):Int:=if isN s=true/\isN t=true then (if val t<=val s then 0 else 10) else 1
theorem T5(s t:ByteArray)(w:World)(hE:Env w)(hs:s.size<=140737488355328)(ht:t.size<=140737488355328):
 Calls Tryz.prog 122 #[.string s,.string t] w fun e w'=>e=.returned (.tuple #[.string (IJ s t),.int .i64 (IK s t)])/\Below w.heap.size w w':=by
 have cc:=GK s t w hE hs ht
 by_cases hg:isN s=true/\isN t=true
 .have e1:FS s t=Bp (val s) (val t):=by unfold FS;rw[zG hg]
  have e2:FT s t=0:=by unfold FT;rw[zG hg]
  rw[e1,e2]at cc
  by_cases hle:val t<=val s
  .have HG:Hid (IJ s t=Ft (val s-val t)/\IK s t=Fu (val s-val t)):=by
    have:=B9 hg.1;unfold Hid IJ IK Ft Fu;rw[zG ⟨hg.1,hg.2,hle⟩,zG hg,zG hle,zG (by omega),zG (by omega)];exact⟨rfl,rfl⟩
   have hc:¬Bp (val s) (val t)<0:=by unfold Bp;rw[zF (by omega)];split<;>omega
   have HO:=zh (Fg (k:=val s-val t) hg.1 hg.2);have ha:Hid (∀w1,Env w1->Calls Tryz.prog 112 #[.string s,.string t,.func (.func 153) #[] #[]] w1 (CG (val s-val t) s t w1)):=fun w1 h=>OH s t w1 h hg.1 hg.2 hle;replace hE:=zh hE;generalize Bp (val s) (val t)=c at cc hc;clear e1 e2 hg hle;go_enter Tryz.func122,Tryz.ntmps122
   go_wp2_with (first
    |(go_at_call 121;refine cc.mono ?_;rintro e w1 ⟨rfl,a⟩;replace a:=zh a)
    |(go_at_call 112;refine(ha.o _ (by exact hE.o.below a.o)).mono ?_;rintro e w2 ⟨rfl,d⟩;replace d:=zh d))
   go_ret2;exact⟨by rw[HG.o.1,HG.o.2];exact congrArg Ending.returned (by simp[HO.o.1,HO.o.2]),a.o.trans (d.o.mono a.o.size)⟩
  have HG:Hid (IJ s t=⟨#[]⟩/\IK s t=10):=by
   unfold Hid IJ IK;rw[zF (fun h=>hle h.2.2),zG hg,zF hle];exact⟨rfl,rfl⟩
  rw[Cy (by omega)]at cc;replace hE:=zh hE;clear e1 e2 hg hle;go_enter Tryz.func122,Tryz.ntmps122
  go_wp2_with (go_at_call 121;refine cc.mono ?_;rintro e w1 ⟨rfl,a⟩;replace a:=zh a)
  go_ret2;exact⟨by rw[HG.o.1,HG.o.2];rfl,a.o⟩
 have e1:FS s t=0:=by unfold FS;rw[zF hg]
 have e2:FT s t=1:=by unfold FT;rw[zF hg]
 rw[e1,e2]at cc
 have aa:isN s=false\/isN t=false:=by
  cases h1:isN s with
  |false=>exact .inl rfl
  |true=>right;cases h2:isN t with
   |false=>rfl
   |true=>exact absurd ⟨h1,h2⟩ hg
 have HG:Hid (IJ s t=⟨#[]⟩/\IK s t=1):=by
  unfold Hid IJ IK;rw[zF (fun h=>hg ⟨h.1,h.2.1⟩),zF hg];exact⟨rfl,rfl⟩
 have HO:=zh (JO (k:=0) aa);have ha:Hid (∀w1,Calls Tryz.prog 112 #[.string s,.string t,.func (.func 153) #[] #[]] w1 (CG 0 s t w1)):=fun w1=>CH _ _ s t w1 hs ht aa;replace hE:=zh hE;clear e1 e2 hg aa;go_enter Tryz.func122,Tryz.ntmps122
 go_wp2_with (first
  |(go_at_call 121;refine cc.mono ?_;rintro e w1 ⟨rfl,a⟩;replace a:=zh a)
  |(go_at_call 112;refine(ha.o _).mono ?_;rintro e w2 ⟨rfl,d⟩;replace d:=zh d))
 go_ret2;exact⟨by rw[HG.o.1,HG.o.2];exact congrArg Ending.returned (by simp[HO.o.1,HO.o.2]),a.o.trans (d.o.mono a.o.size)⟩
def Hi(s t:ByteArray):ByteArray:=if isN s=true/\isN t=true/\val t≠0 then num (val s/val t) else ⟨#[]⟩
def Hj(s t:ByteArray):ByteArray:=if isN s=true/\isN t=true/\val t≠0 then num (val s%val t) else ⟨#[]⟩
def Hk(s t:ByteArray):Int:=if isN s=true/\isN t=true then (if val t=0 then 15 else 0) else 1
def T6(s t:ByteArray)(w:World)(e:Ending)(w':World):Prop:=e=.returned (.tuple #[.string (Hi s t),.string (Hj s t),.int .i64 (Hk s t)])/\Below w.heap.size w w'
theorem KT{t:ByteArray}(h:isN t=true):t.toList=[48]<->val t=0:=by
 obtain⟨n,_,rfl⟩:=BI h;rw[Bc,yR];constructor
 .intro e;have h:=Bc n;unfold val at h;rw[e]at h;rw[<-h];rfl
 intro e;subst e
 show Lib.decDigits 0=[48]
 rw[vA (by omega)];rfl
theorem T7(s t:ByteArray)(w:World)(hE:Env w)(hs:s.size<=140737488355328)(ht:t.size<=140737488355328):
 Calls Tryz.prog 68 #[.string s,.string t] w (T6 s t w):=by
 have c1:=B5 s w (by omega);replace hE:=zh hE
 cases h1:isN s with
 |false=>
  have HG:Hid (Hi s t=⟨#[]⟩/\Hj s t=⟨#[]⟩/\Hk s t=1):=by unfold Hid Hi Hj Hk;simp[h1]
  rw[h1]at c1;clear h1;go_enter Tryz.func68,Tryz.ntmps68
  go_wp2_with (go_at_call 111;refine c1.mono ?_;rintro e w1 ⟨rfl,d⟩)
  go_ret3
  exact⟨by rw[HG.o.1,HG.o.2.1,HG.o.2.2];rfl,d⟩
 |true=>
  cases h2:isN t with
  |false=>
   have HG:Hid (Hi s t=⟨#[]⟩/\Hj s t=⟨#[]⟩/\Hk s t=1):=by unfold Hid Hi Hj Hk;simp[h2]
   rw[h1]at c1;have H2:=zh h2;clear h1 h2;go_enter Tryz.func68,Tryz.ntmps68
   go_wp2_with fail
   refine c1.mono ?_;rintro e w1 ⟨rfl,d⟩;replace d:=zh d
   go_wp2_with fail
   have c2:=B5 t w1 (by omega);rw[H2.o]at c2;refine c2.mono ?_;rintro e w2 ⟨rfl,a⟩;replace a:=zh a;go_wp2
   go_ret3
   exact⟨by rw[HG.o.1,HG.o.2.1,HG.o.2.2];rfl,d.o.trans (a.o.mono d.o.size)⟩
  |true=>
   rw[h1]at c1;have H1:=zh h1;have H2:=zh h2
   by_cases hz:val t=0
   .have HG:Hid (Hi s t=⟨#[]⟩/\Hj s t=⟨#[]⟩/\Hk s t=15):=by unfold Hid Hi Hj Hk;simp[h1,h2,hz]
    have hb:(t.toList==[48])=true:=by rw[xF];exact(KT h2).2 hz
    clear h1 h2 hz;go_enter Tryz.func68,Tryz.ntmps68
    go_wp2_with fail
    refine c1.mono ?_;rintro e w1 ⟨rfl,d⟩;replace d:=zh d
    go_wp2_with fail
    have c2:=B5 t w1 (by omega);rw[H2.o]at c2;refine c2.mono ?_;rintro e w2 ⟨rfl,a⟩;replace a:=zh a;go_wp2
    go_ret3
    exact⟨by rw[HG.o.1,HG.o.2.1,HG.o.2.2];rfl,d.o.trans (a.o.mono d.o.size)⟩
   have hq:val s/val t<Lim:=zl (xo _ _) (B9 h1);have hr:val s%val t<Lim:=zl (Nat.mod_le _ _) (B9 h1);have HG:Hid (Hi s t=num (val s/val t)/\Hj s t=num (val s%val t)/\Hk s t=0):=by unfold Hid Hi Hj Hk;simp[h1,h2,hz]
   have HL:Hid (Di (Lib.decDigits (val s/val t))=.tuple #[.string (num (val s/val t)),.int .i64 0]/\Di (Lib.decDigits (val s%val t))=.tuple #[.string (num (val s%val t)),.int .i64 0]):=by
    unfold Hid;rw[CF,CF];unfold Ft Fu;rw[zG hq,zG hr,zG hq,zG hr];exact⟨rfl,rfl⟩
   have hb:(t.toList==[48])=false:=by rw[zM];exact fun h=>hz ((KT h2).1 h)
   replace hz:=zh hz;replace hq:=zh hq;replace hr:=zh hr;clear h1 h2;go_enter Tryz.func68,Tryz.ntmps68
   go_wp2_with fail
   refine c1.mono ?_;rintro e w1 ⟨rfl,d⟩;have ag:=zh d;clear d
   go_wp2_with fail
   have c2:=B5 t w1 (by omega);rw[H2.o]at c2;refine c2.mono ?_;rintro e w2 ⟨rfl,a⟩;have aa:=zh (ag.o.trans (a.mono ag.o.size));clear a c1 c2 ag
   go_wp2_with fail
   refine(Bu s w2 H1.o).mono ?_;rintro e w3 ⟨v1,rfl,ai,_,am⟩;have ah:=zh (aa.o.trans (am.mono aa.o.size));replace ai:=zh ai;clear am aa
   go_wp2_with fail
   refine(Bu t w3 H2.o).mono ?_;rintro e w4 ⟨v2,rfl,aj,_,a⟩;have aa:=zh (ah.o.trans (a.mono ah.o.size));replace a:=zh a;replace aj:=zh aj;clear ah
   go_wp2_with fail
   refine(NS w4 v1 v2 (val s) (val t) (ai.o.below a.o) aj.o (BA (B9 H1.o)) (Mf (B9 H2.o)) (Nat.pos_of_ne_zero hz.o) (by have:=aa.o.size;have:=hE.o.pos;omega)).mono ?_;rintro e w5 ⟨⟨q,r,rfl,ak,al⟩,an⟩;have ad:=zh (aa.o.trans (an.mono aa.o.size));replace ak:=zh ak;replace al:=zh al;clear an aa a ai aj
   go_wp2_with fail
   refine(Ec w5 q _ ak.o (BA hq.o) (hE.o.below ad.o)).mono ?_;rintro e w6 ⟨rfl,af⟩;rw[HL.o.1];have ae:=zh (ad.o.trans (af.mono ad.o.size));replace af:=zh af;clear ad
   go_wp2_with fail
   refine(Ec w6 r _ (al.o.below af.o) (BA hr.o) (hE.o.below ae.o)).mono ?_;rintro e w7 ⟨rfl,ao⟩;rw[HL.o.2];have aq:=zh (ae.o.trans (ao.mono ae.o.size));clear ao af ae;go_wp2
   go_ret3
   exact⟨by rw[HG.o.1,HG.o.2.1,HG.o.2.2];rfl,aq.o⟩
theorem T8:∀(l:List UInt8)(a:Nat),(∀c∈l,AH c)->a<18446744073709551616->Lib.parseUint10 a l=if a*10^l.length+A4 l<18446744073709551616 then .ok (a*10^l.length+A4 l) else .range:=by
 intro l
 induction l with
 |nil=>
  intro a _ ha;simp only[Lib.parseUint10,yQ,Nat.pow_zero,Nat.mul_one,EK,xY];rw[zG ha]
 |cons c l ih=>
  intro a h ha;have h1:=h c (by simp);have hp:1<=10^l.length:=xT (by omega)
  have e:a*10^(c::l).length+A4 (c::l)=(a*10+(c.toNat-48))*10^l.length+A4 l:=by
   rw[CB,ze,zu,yF,zr a 10,zn 10];omega
  rw[e];have aa:a*10+(c.toNat-48)<=(a*10+(c.toNat-48))*10^l.length:=xy _ hp;rw[Lib.parseUint10,zG (show 48<=c.toNat/\c.toNat<=57 from h1)]
  by_cases c1:1844674407370955162<=a
  .rw[zG c1,zF (by omega)]
  rw[zF c1]
  by_cases c2:18446744073709551616<=a*10+(c.toNat-48)
  .rw[zG c2,zF (by omega)]
  rw[zF c2];exact ih _ (fun d hd=>h d (by simp[hd])) (by omega)
theorem QK(n:Nat):Lib.atoiAll (num n).data.toList=if n<=9223372036854775807 then .ok (n:Int) else .range:=by
 have hd:=A6 n;have hv:=At n
 show Lib.atoiAll (Lib.decDigits n)=_
 cases hl:Lib.decDigits n with
 |nil=>exact absurd hl (AL n)
 |cons c r=>
  rw[hl]at hd hv;have h1:=hd c (by simp);have h2:=h1.1;have hp:=T8 (c::r) 0 hd (by omega);rw[xu,yD,hv]at hp;unfold Lib.atoiAll;simp only[Lib.parseMag];have a:¬c.toNat=45:=by omega
  have d:¬(c.toNat=43\/c.toNat=45):=by omega
  rw[zF d,zF (by simp),hp]
  by_cases hle:n<=9223372036854775807
  .rw[zG (by omega),zG hle];simp only[a];rw[zF (by omega),zF (by simp),zF (by simp)]
  rw[zF hle]
  by_cases h64:n<18446744073709551616
  .rw[zG h64];simp only[a];rw[zG ⟨by simp,by omega⟩]
  rw[zF h64]
theorem JP(l:List UInt8)(n:Nat)(h:Q1 l=true)(hv:A4 l=n):num n=⟨l.toArray⟩:=by
 have:=NT (s:=⟨l.toArray⟩) h;rw[<-this];exact congrArg num hv.symm
def T:Option Nat->ByteArray|some n=>num n|none=>⟨#[]⟩
def Ok(x:Option Nat):Prop:=∀n,x=some n->n<Lim
def JQ(k:Nat):Option Nat:=if k<Lim then some k else none
def apO(f:Nat->Nat->Nat):Option Nat->Option Nat->Option Nat|some a,some b=>JQ (f a b)|_,_=>none
def apE(f:Nat->Nat->Nat):Option Nat->Option Nat->Int|some a,some b=>if f a b<Lim then 0 else 2|_,_=>1
def Vf(x y:Option Nat):Option Nat:=apO (·+·) x y
def Vg(x y:Option Nat):Int:=apE (·+·) x y
def QL(x y:Option Nat):Option Nat:=apO (·*·) x y
def QM(x y:Option Nat):Int:=apE (·*·) x y
def Mh(x y:Option Nat):Option Nat:=apO Nat.gcd x y
def Mi(x y:Option Nat):Int:=apE Nat.gcd x y
def T9:Option Nat->Option Nat->Option Nat|some a,some b=>if b<=a then some (a-b) else none|_,_=>none
def TA:Option Nat->Option Nat->Int|some a,some b=>if b<=a then 0 else 10|_,_=>1
def OK:Option Nat->Option Nat->Option Nat|some a,some b=>if b=0 then none else some (a/b)|_,_=>none
def VW:Option Nat->Option Nat->Option Nat|some a,some b=>if b=0 then none else some (a%b)|_,_=>none
def OL:Option Nat->Option Nat->Int|some _,some b=>if b=0 then 15 else 0|_,_=>1
def QN:Option Nat->Option Nat->Int|some a,some b=>Bp a b|_,_=>0
def TB:Option Nat->Option Nat->Int|some _,some _=>0|_,_=>1
theorem Ah{n:Nat}(h:n<Lim):Ok (some n):=fun _ e=>by cases e;exact h
theorem C7{x:Option Nat}(h:Ok x):isN (T x)=x.isSome:=by
 cases x with
 |none=>rfl
 |some n=>exact Cw (h n rfl)
theorem B6{x:Option Nat}(h:Ok x):(T x).size<=140737488355328:=by
 cases x with
 |none=>exact zP _
 |some n=>
  have h1:isN (T (some n))=true:=C7 h;have h2:=((Eb _).1 h1).2.1;have h3:(T (some n)).size=(T (some n)).data.toList.length:=x7 _;omega
theorem OM(x:Option Nat)(h:Ok x)(w:World):Calls Tryz.prog 111 #[.string (T x)] w fun e w'=>e=.returned (.bool x.isSome)/\Below w.heap.size w w':=by
 have:=B5 (T x) w (by have:=B6 h;omega)
 rwa [C7 h]at this
theorem QO(f:Nat->Nat->Nat){x y:Option Nat}(hx:Ok x)(hy:Ok y):opS (f (val (T x)) (val (T y))) (T x) (T y)=T (apO f x y)/\opE (f (val (T x)) (val (T y))) (T x) (T y)=apE f x y:=by
 cases x with
 |none=>exact JO (.inl rfl)
 |some a=>
  cases y with
  |none=>exact JO (.inr rfl)
  |some b=>
   have h:=Fg (k:=f (val (T (some a))) (val (T (some b)))) (C7 hx) (C7 hy);have ha:val (T (some a))=a:=Bc a;have hb:val (T (some b))=b:=Bc b;rw[ha,hb]at h ⊢;rw[h.1,h.2]
   show Ft (f a b)=T (JQ (f a b))/\Fu (f a b)=if f a b<Lim then 0 else 2
   unfold JQ Ft Fu
   by_cases hl:f a b<Lim
   .rw[zG hl,zG hl,zG hl];exact⟨rfl,rfl⟩
   rw[zF hl,zF hl,zF hl];exact⟨rfl,rfl⟩
theorem WB(x y:Option Nat)(w:World)(hE:Env w)(hx:Ok x)(hy:Ok y):Calls Tryz.prog 120 #[.string (T x),.string (T y)] w fun e w'=>e=.returned (.tuple #[.string (T (Vf x y)),.int .i64 (Vg x y)])/\Below w.heap.size w w':=by
 refine(T1 (T x) (T y) w hE (B6 hx) (B6 hy)).mono ?_;rintro e w' ⟨rfl,hb⟩;have:=QO (·+·) hx hy;exact⟨by rw[this.1,this.2];rfl,hb⟩
theorem VX(x y:Option Nat)(w:World)(hE:Env w)(hx:Ok x)(hy:Ok y):Calls Tryz.prog 69 #[.string (T x),.string (T y)] w fun e w'=>e=.returned (.tuple #[.string (T (QL x y)),.int .i64 (QM x y)])/\Below w.heap.size w w':=by
 refine(T3 (T x) (T y) w hE (B6 hx) (B6 hy)).mono ?_;rintro e w' ⟨rfl,hb⟩;have:=QO (·*·) hx hy;exact⟨by rw[this.1,this.2];rfl,hb⟩
theorem QP(x y:Option Nat)(w:World)(hE:Env w)(hx:Ok x)(hy:Ok y):Calls Tryz.prog 67 #[.string (T x),.string (T y)] w fun e w'=>e=.returned (.tuple #[.string (T (Mh x y)),.int .i64 (Mi x y)])/\Below w.heap.size w w':=by
 refine(T4 (T x) (T y) w hE (B6 hx) (B6 hy)).mono ?_;rintro e w' ⟨rfl,hb⟩;have:=QO Nat.gcd hx hy;exact⟨by rw[this.1,this.2];rfl,hb⟩
theorem VY(x y:Option Nat)(w:World)(hE:Env w)(hx:Ok x)(hy:Ok y):Calls Tryz.prog 122 #[.string (T x),.string (T y)] w fun e w'=>e=.returned (.tuple #[.string (T (T9 x y)),.int .i64 (TA x y)])/\Below w.heap.size w w':=by
 refine(T5 (T x) (T y) w hE (B6 hx) (B6 hy)).mono ?_;rintro e w' ⟨rfl,hb⟩;refine⟨?_,hb⟩;have h1:=C7 hx;have h2:=C7 hy
 cases x with
 |none=>unfold IJ IK;rw[h1];rfl
 |some a=>
  cases y with
  |none=>unfold IJ IK;rw[h2];simp;exact⟨rfl,rfl⟩
  |some b=>
   have ha:val (T (some a))=a:=Bc a;have hb:val (T (some b))=b:=Bc b;unfold IJ IK T9 TA;rw[h1,h2,ha,hb]
   by_cases h:b<=a
   .simp[h,T]
   simp[h,T]
theorem Mj(x y:Option Nat)(w:World)(hE:Env w)(hx:Ok x)(hy:Ok y):Calls Tryz.prog 68 #[.string (T x),.string (T y)] w fun e w'=>e=.returned (.tuple #[.string (T (OK x y)),.string (T (VW x y)),.int .i64 (OL x y)])/\Below w.heap.size w w':=by
 refine(T7 (T x) (T y) w hE (B6 hx) (B6 hy)).mono ?_;rintro e w' ⟨rfl,hb⟩;refine⟨?_,hb⟩;have h1:=C7 hx;have h2:=C7 hy
 cases x with
 |none=>unfold Hi Hj Hk;rw[h1];rfl
 |some a=>
  cases y with
  |none=>unfold Hi Hj Hk;rw[h2];simp;exact⟨rfl,rfl,rfl⟩
  |some b=>
   have ha:val (T (some a))=a:=Bc a;have hb:val (T (some b))=b:=Bc b;unfold Hi Hj Hk OK VW OL;rw[h1,h2,ha,hb]
   by_cases h:b=0
   .simp[h,T]
   simp[h,T]
theorem VZ(x y:Option Nat)(w:World)(hE:Env w)(hx:Ok x)(hy:Ok y):Calls Tryz.prog 121 #[.string (T x),.string (T y)] w fun e w'=>e=.returned (.tuple #[.int .i64 (QN x y),.int .i64 (TB x y)])/\Below w.heap.size w w':=by
 refine(GK (T x) (T y) w hE (B6 hx) (B6 hy)).mono ?_;rintro e w' ⟨rfl,hb⟩;refine⟨?_,hb⟩;have h1:=C7 hx;have h2:=C7 hy
 cases x with
 |none=>unfold FS FT;rw[h1];rfl
 |some a=>
  cases y with
  |none=>unfold FS FT;rw[h2];simp;exact⟨rfl,rfl⟩
  |some b=>
   have ha:val (T (some a))=a:=Bc a;have hb:val (T (some b))=b:=Bc b;unfold FS FT QN TB;rw[h1,h2,ha,hb];simp
theorem QQ:T (some 0)=⟨#[48]⟩:=JP [48] 0 (by decide) (by decide)
theorem QR:(T (some 0)).toList=[48]:=by rw[QQ,yR]
theorem Fh{a b:Nat}(ha:a<Lim)(hb:b<Lim):Nat.gcd a b<Lim:=by
 rcases yr a with rfl|h
 .rwa [vd]
 exact zl (Nat.gcd_le_left b h) ha
theorem UK:T (some 1)=⟨#[49]⟩:=JP [49] 1 (by decide) (by decide)
def sg(g:Bool)(a:Nat):Int:=if g then -(a:Int) else a
theorem Ce(g:Bool)(a:Nat):(sg g a).natAbs=a:=by cases g<;>simp[sg]
theorem QS(g:Bool)(a:Nat):decide (sg g a<0)=(g&&!decide (a=0)):=by
 rw[wO]
 cases g
 .simp[sg]
 simp[sg];omega
theorem Cp(z:Int):sg (decide (z<0)) z.natAbs=z:=by
 unfold sg
 by_cases h:z<0
 .simp[h];omega
 simp[h];omega
theorem QT(g h:Bool)(a b:Nat):sg g a*sg h b=sg (g != h) (a*b):=by
 cases g<;>cases h<;>simp[sg,Int.neg_mul,Int.mul_neg]
theorem QU(g:Bool)(a b:Nat)(hb:b≠0):(mkRat (sg g a) b).num=sg g (a/Nat.gcd a b):=by
 rw[Rat.num_mkRat,zF hb,Ce,vZ]
 cases g
 .simp[sg]
 simp only[sg,ww];rw[Int.neg_ediv_of_dvd (Int.ofNat_dvd.2 (vK a b)),vJ]
theorem QV(g:Bool)(a b:Nat)(hb:b≠0):(mkRat (sg g a) b).den=b/Nat.gcd a b:=by
 rw[Rat.den_mkRat,zF hb,Ce,vZ]
def qv(q:Rat):Value:=.agg #[.bool (decide (q.num<0)),.string (T (some q.num.natAbs)),.string (T (some q.den))]
def zv:Value:=.agg #[.bool false,.string ⟨#[]⟩,.string ⟨#[]⟩]
def OkQ(q:Rat):Prop:=q.num.natAbs<Lim/\q.den<Lim
theorem Wa(g:Bool)(a b:Nat)(hb:b≠0):qv (mkRat (sg g a) b)=.agg #[.bool (g&&!decide (a/Nat.gcd a b=0)),.string (T (some (a/Nat.gcd a b))),.string (T (some (b/Nat.gcd a b)))]:=by
 unfold qv;rw[QU g a b hb,QV g a b hb,QS,Ce]
def Au(g:Bool)(n d:ByteArray):Bool :=
 isN n&&(isN d&&(!decide (val d=0)&&(if val n=0 then !g&&decide (val d=1) else decide (Nat.gcd (val n) (val d)=1))))
theorem Fi(g:Bool)(a b:Nat)(ha:a<Lim)(hb:b<Lim):Au g (num a) (num b)=(!decide (b=0)&&(if a=0 then !g&&decide (b=1) else decide (Nat.gcd a b=1))):=by
 unfold Au;rw[Cw ha,Cw hb,Bc,Bc,yo,yo]
theorem AQ{q:Rat}(h:OkQ q):Au (decide (q.num<0)) (T (some q.num.natAbs)) (T (some q.den))=true:=by
 show Au _ (num _) (num _)=true
 rw[Fi _ _ _ h.1 h.2];have hd:=q.den_nz;have hr:Nat.gcd q.num.natAbs q.den=1:=q.reduced
 by_cases h0:q.num.natAbs=0
 .rw[h0,vd]at hr;have:¬q.num<0:=by omega
  simp[h0,hr,this]
 simp[h0,hd,hr]
theorem KU{g:Bool}{n d:ByteArray}(h:Au g n d=true):∃q:Rat,OkQ q/\g=decide (q.num<0)/\n=T (some q.num.natAbs)/\d=T (some q.den):=by
 have h1:isN n=true:=by unfold Au at h;simp only[yI]at h;exact h.1
 have h2:isN d=true:=by unfold Au at h;simp only[yI]at h;exact h.2.1
 obtain⟨a,ha,rfl⟩:=BI h1;obtain⟨b,hb,rfl⟩:=BI h2;rw[Fi g a b ha hb]at h;simp only[yI,Bool.not_eq_true',zW]at h;obtain⟨ad,h3⟩:=h
 have aa:Nat.gcd a b=1:=by
  by_cases h0:a=0
  .rw[zG h0]at h3;simp at h3;rw[h0,h3.2];rfl
  rw[zF h0]at h3
  simpa using h3
 have hg:g=decide (sg g a<0):=by
  rw[QS]
  by_cases h0:a=0
  .rw[zG h0]at h3;simp at h3;rw[h3.1];rfl
  simp[h0]
 refine⟨⟨sg g a,b,ad,by rw[Ce];exact aa⟩,⟨by show (sg g a).natAbs<Lim;rw[Ce];exact ha,hb⟩,hg,?_,rfl⟩
 show num a=num (sg g a).natAbs
 rw[Ce]
@[irreducible] def mx1:Nat:=140
theorem DT:mx1=140:=by unfold mx1;rfl
def L1:Nat:=10^mx1
theorem Hr(n:Nat):(num n).size<=140<->n<L1:=by
 have:=AM n mx1 (by rw[DT];omega);have e:(num n).size=(Lib.decDigits n).length:=by simp[num,ByteArray.size]
 rw[e,<-DT];exact this
theorem Vh:1<=L1:=xT (by omega)
theorem Ja:2*(L1*L1)<Lim:=by
 have e:L1*L1=10^(mx1+mx1):=by unfold L1;rw[xU]
 have h:10^(mx1+mx1+1)<=Lim:=by
  unfold Lim;exact zV (by omega) (by rw[DT,CC];omega)
 rw[zu]at h;rw[e];have h2:0<10^(mx1+mx1):=xT (by omega);omega
theorem CI{a b:Nat}(ha:a<L1)(hb:b<L1):a*b<L1*L1:=x8 ha hb
theorem AI{a:Nat}(h:a<L1):a<Lim:=by
 have h1:=Ja;have h2:=Vh;have h3:L1*1<=L1*L1:=yE _ h2;omega
def ShortQ(q:Rat):Prop:=q.num.natAbs<L1/\q.den<L1
instance (q:Rat):Decidable (ShortQ q):=inferInstanceAs (Decidable (_/\_))
theorem ShortQ.ok{q:Rat}(h:ShortQ q):OkQ q:=⟨AI h.1,AI h.2⟩
theorem JS(p q:Rat):mkRat (p.num*q.den+q.num*p.den) (p.den*q.den)=p+q:=(Rat.add_def' p q).symm
theorem QW{g:Bool}{x y:Nat}{p q:Rat}(hp:g=decide (p.num<0))(hq:g=decide (q.num<0))(hx:x=p.num.natAbs*q.den)(hy:y=q.num.natAbs*p.den):
 sg g (x+y)=p.num*q.den+q.num*p.den:=by
 rw[<-Cp p.num,<-Cp q.num,<-hp,<-hq,hx,hy]
 cases g
 .simp[sg]
 simp only[sg,ww,yq,xC,Int.neg_mul];omega
theorem QX{g h:Bool}{x y:Nat}{p q:Rat}(hp:g=decide (p.num<0))(hq:h=decide (q.num<0))(hx:x=p.num.natAbs*q.den)(hy:y=q.num.natAbs*p.den)(a:g≠h)(hl:x<y):
 sg h (y-x)=p.num*q.den+q.num*p.den:=by
 rw[<-Cp p.num,<-Cp q.num,<-hp,<-hq];have e1:(x:Int)=(p.num.natAbs:Int)*(q.den:Int):=by rw[hx,xC]
 have e2:(y:Int)=(q.num.natAbs:Int)*(p.den:Int):=by rw[hy,xC]
 cases g<;>cases h<;>simp only[sg,ww,wg,if_false,Int.neg_mul,ne_eq,not_true_eq_false]at a ⊢
 all_goals omega
theorem QY{g h:Bool}{x y:Nat}{p q:Rat}(hp:g=decide (p.num<0))(hq:h=decide (q.num<0))(hx:x=p.num.natAbs*q.den)(hy:y=q.num.natAbs*p.den)(a:g≠h)(hl:y<=x):
 sg g (x-y)=p.num*q.den+q.num*p.den:=by
 rw[<-Cp p.num,<-Cp q.num,<-hp,<-hq];have e1:(x:Int)=(p.num.natAbs:Int)*(q.den:Int):=by rw[hx,xC]
 have e2:(y:Int)=(q.num.natAbs:Int)*(p.den:Int):=by rw[hy,xC]
 cases g<;>cases h<;>simp only[sg,ww,wg,if_false,Int.neg_mul,ne_eq,not_true_eq_false]at a ⊢
 all_goals omega
theorem Vi(p q:Rat):mkRat (sg (decide (p.num<0) != decide (q.num<0)) (p.num.natAbs*q.num.natAbs)) (p.den*q.den)=p*q:=by
 rw[<-QT,Cp,Cp,Rat.mul_def']
theorem QZ(p q:Rat):mkRat (sg (decide (p.num<0) != decide (q.num<0)) (p.num.natAbs*q.den)) (p.den*q.num.natAbs)=p/q:=by
 have hi:q⁻¹=mkRat (sg (decide (q.num<0)) q.den) q.num.natAbs:=by
  rw[Rat.inv_def];unfold sg
  by_cases hn:q.num<0
  .have e:q.num=-((q.num.natAbs:Nat):Int):=by omega
   rw[zH hn,zG rfl]
   conv=>lhs;rw[e]
   rw[Rat.divInt_neg',Rat.divInt_ofNat]
  have e:q.num=((q.num.natAbs:Nat):Int):=by omega
  rw[zD hn]
  conv=>lhs;rw[e]
  rw[Rat.divInt_ofNat];rfl
 have hp:p=mkRat (sg (decide (p.num<0)) p.num.natAbs) p.den:=by rw[Cp,Rat.mkRat_self]
 show _=p*q⁻¹
 rw[hi]
 conv=>rhs;rw[hp]
 rw[Rat.mkRat_mul_mkRat,QT]
end Nt
end
section
open Go.RowKit Go.Shelf
namespace Ci
open Nt
abbrev Lk:=Int×Int×Bool×ByteArray×ByteArray
def InLk(W:World)(A:Option Addr)(l:List Lk):Prop :=
 0<l.length->∃b off,A=some ⟨b,off,none⟩/\b<W.heap.size/\∀j (h:j<l.length),W.cell? ⟨b,off+j*5,none⟩=some (.int .i64 l[j].1)/\W.cell? ⟨b,off+j*5+1,none⟩=some (.int .i64 l[j].2.1) /\
  W.cell? ⟨b,off+j*5+2,none⟩=some (.bool l[j].2.2.1)/\W.cell? ⟨b,off+j*5+3,none⟩=some (.string l[j].2.2.2.1)/\W.cell? ⟨b,off+j*5+4,none⟩=some (.string l[j].2.2.2.2)
def InStr(W:World)(A:Option Addr)(l:List ByteArray):Prop :=
 0<l.length->∃b off,A=some ⟨b,off,none⟩/\b<W.heap.size/\∀j (h:j<l.length),W.cell? ⟨b,off+j,none⟩=some (.string l[j])
def InInt(W:World)(A:Option Addr)(l:List Int):Prop :=
 0<l.length->∃b off,A=some ⟨b,off,none⟩/\b<W.heap.size/\∀j (h:j<l.length),W.cell? ⟨b,off+j,none⟩=some (.int .i64 l[j])
theorem InLk.below{W W':World}{A:Option Addr}{l:List Lk}(h:InLk W A l)(hb:Below W.heap.size W W'):InLk W' A l:=fun h0=>by
 obtain⟨b,off,e,hl,hc⟩:=h h0;refine⟨b,off,e,zJ hl hb.size,fun j hj=>?_⟩;obtain⟨c1,c2,c3,c4,c5⟩:=hc j hj;exact⟨(hb.cell (p:=⟨b,_,none⟩) hl).trans c1,(hb.cell (p:=⟨b,_,none⟩) hl).trans c2,(hb.cell (p:=⟨b,_,none⟩) hl).trans c3,(hb.cell (p:=⟨b,_,none⟩) hl).trans c4,(hb.cell (p:=⟨b,_,none⟩) hl).trans c5⟩
theorem InStr.below{W W':World}{A:Option Addr}{l:List ByteArray}(h:InStr W A l)(hb:Below W.heap.size W W'):InStr W' A l:=fun h0=>by
 obtain⟨b,off,e,hl,hc⟩:=h h0;exact⟨b,off,e,zJ hl hb.size,fun j hj=>(hb.cell (p:=⟨b,_,none⟩) hl).trans (hc j hj)⟩
theorem InInt.below{W W':World}{A:Option Addr}{l:List Int}(h:InInt W A l)(hb:Below W.heap.size W W'):InInt W' A l:=fun h0=>by
 obtain⟨b,off,e,hl,hc⟩:=h h0;exact⟨b,off,e,zJ hl hb.size,fun j hj=>(hb.cell (p:=⟨b,_,none⟩) hl).trans (hc j hj)⟩
def CT(i c:Nat):Prop:=(97<=c/\c<=122)\/(65<=c/\c<=90)\/(i≠0/\(c=95\/(48<=c/\c<=57)))
instance (i c:Nat):Decidable (CT i c):=inferInstanceAs (Decidable (_\/_))
def Bn(s:ByteArray):Bool:=decide (∀i (h:i<s.size),CT i s[i].toNat)&&(decide (0<s.size)&&decide (s.size<=24))
theorem ON{s:ByteArray}{i:Nat}(h:i<s.size)(hb:¬CT i s[i].toNat):Bn s=false:=by
 unfold Bn;rw[zD fun hc=>hb (hc i h)];rfl
theorem OO{s:ByteArray}(h:∀i (h:i<s.size),CT i s[i].toNat):Bn s=(decide (0<s.size)&&decide (s.size<=24)):=by
 unfold Bn;rw[zH h];rfl
abbrev Rw:=Bool×ByteArray×ByteArray
def unitsN(x:Rw):Nat :=
 if Au x.1 x.2.1 x.2.2=false\/x.1=true\/4<x.2.1.size\/4<x.2.2.size then 0
 else if val x.2.2<val x.2.1\/6000%val x.2.2≠0 then 0 else val x.2.1*(6000/val x.2.2)
theorem Rc(x:Rw):unitsN x<=6000:=by
 unfold unitsN
 split
 .omega
 split
 .omega
 rename_i h;have h1:val x.2.1<=val x.2.2:=by omega
 exact zS (yG _ h1) (Nat.mul_div_le _ _)
def lkP(x:Lk):Rw:=(x.2.2.1,x.2.2.2.1,x.2.2.2.2)
def sumU(l:List Lk)(c:Int):Nat:=((l.filter fun x=>decide (x.1=c)).map fun x=>unitsN (lkP x)).sum
def Ml(a b:Lk):Prop:=a.1<b.1\/(a.1=b.1/\a.2.1<b.2.1)
instance (a b:Lk):Decidable (Ml a b):=inferInstanceAs (Decidable (_\/_))
def Own(n:Nat)(x:Lk):Prop:=(0<=x.1/\x.1<n)/\(0<=x.2.1/\x.2.1<n)/\x.1≠x.2.1/\unitsN (lkP x)≠0
instance (n:Nat) (x:Lk):Decidable (Own n x):=inferInstanceAs (Decidable (_/\_))
def CJ(n:Nat)(l:List Lk)(i:Nat)(h:i<l.length):Prop:=Own n l[i]/\(0<i->Ml (l[i-1]'(by omega)) l[i])/\sumU (l.take (i+1)) l[i].1<=6000
instance (n:Nat) (l:List Lk) (i:Nat) (h:i<l.length):Decidable (CJ n l i h):=inferInstanceAs (Decidable (_/\_))
def EO(n:Nat)(l:List Lk):Bool:=decide (∀i (h:i<l.length),CJ n l i h)
theorem Rd{n:Nat}{l:List Lk}{i:Nat}(h:i<l.length)(hb:¬CJ n l i h):EO n l=false:=zD fun hc=>hb (hc i h)
theorem Re{n:Nat}{l:List Lk}(h:∀i (h:i<l.length),CJ n l i h):EO n l=true:=zH h
theorem Ex{n:Nat}{l:List Lk}(h:EO n l=true){i:Nat}(hi:i<l.length):CJ n l i hi:=zk h i hi
structure SR where
 ps:List ByteArray
 cap:List Lk
 vot:List Lk
def OP(a b:ByteArray):Bool:=Op.bytesLess a.toList b.toList||a.toList==b.toList
def DU(l:List ByteArray)(i:Nat)(h:i<l.length):Prop:=Bn l[i]=true/\(0<i->OP l[i] (l[i-1]'(by omega))=false)
instance (l:List ByteArray) (i:Nat) (h:i<l.length):Decidable (DU l i h):=inferInstanceAs (Decidable (_/\_))
def Ib(l:List ByteArray):Bool:=decide (∀i (h:i<l.length),DU l i h)
theorem OQ{l:List ByteArray}{i:Nat}(h:i<l.length)(hb:¬DU l i h):Ib l=false:=zD fun hc=>hb (hc i h)
theorem OR{l:List ByteArray}(h:∀i (h:i<l.length),DU l i h):Ib l=true:=zH h
def As(s:SR):Bool:=Ib s.ps&&(decide (s.ps.length<=60)&&(EO s.ps.length s.cap&&EO s.ps.length s.vot))
def Ad(s:SR):List (Nat×Nat):=s.cap.map fun x=>(x.2.1.toNat,x.1.toNat)
theorem Ic{s:SR}(h:As s=true):InN s.ps.length (Ad s):=fun x hx=>by
 unfold As at h;simp only[yI]at h;obtain⟨_,_,h2,_⟩:=h;obtain⟨y,hy,rfl⟩:=List.mem_map.1 hx;obtain⟨i,hi,rfl⟩:=zo hy;obtain⟨⟨a,b,_⟩,_⟩:=Ex h2 hi
 show _<_/\_<_
 simp only[];omega
end Ci
end
section
open Go.ChangeShapes Go.WideShapes Go.ChangeAt Go.RowKit Go.Shelf
namespace Nt
def KV:List (String×DataW Unit):=Rows.boundJoinsRow.laid
theorem Vj:(Tryz.prog.globals[2]?).map (·.type)=some 218:=by kernel_rfl
theorem Vk:(Tryz.prog.globals[0]?).map (·.type)=some 128:=by kernel_rfl
theorem Vl:(Tryz.prog.globals[1]?).map (·.type)=some 128:=by kernel_rfl
theorem OS:Tryz.prog.cellsOf 154=1:=by kernel_rfl
theorem OT:Tryz.prog.cellsOf 218=20:=by kernel_rfl
theorem Jb:Tryz.prog.cellsOf 9=1:=by kernel_rfl
theorem KW:Tryz.prog.cellsOf 214=1:=by kernel_rfl
theorem Wb:"*"++"errors.errorString"="*errors.errorString" := by decide
theorem Rf(u:TypeId)(h:Tryz.prog.typeName? 3 u=some "*errors.errorString"):u=212 :=
 typeName_ptr_named (nm := "errors.errorString") (by rw[Wb]; kernel_rfl) (by kernel_rfl) (by decide) u (by rw[Wb]; exact h)
theorem Vm{W:World}(h:laidMetH Tryz.prog KV W):Env W:=by
 have h0:=(laidMetH_iff.1 h).1
 have hT:laidMet Tryz.prog [("internal/strconv.uint64pow10", Lib.tabData .u64 Lib.pow10Tab)] W := by
  have := h0.filter (fun x=>x.1=="internal/strconv.uint64pow10")
  rwa [show (KV.filter fun x=>x.2.handleName?.isNone).filter (fun x=>x.1=="internal/strconv.uint64pow10")=[("internal/strconv.uint64pow10", Lib.tabData .u64 Lib.pow10Tab)] by kernel_rfl]at this
 have hS:laidMet Tryz.prog [("strconv.ErrSyntax", .iface "*errors.errorString" (.ptr (.agg [.lit (.string [105, 110, 118, 97, 108, 105, 100, 32, 115, 121, 110, 116, 97, 120])])))] W := by
  have := h0.filter (fun x=>x.1=="strconv.ErrSyntax")
  rwa [show (KV.filter fun x=>x.2.handleName?.isNone).filter (fun x=>x.1=="strconv.ErrSyntax")=[("strconv.ErrSyntax", .iface "*errors.errorString" (.ptr (.agg [.lit (.string [105, 110, 118, 97, 108, 105, 100, 32, 115, 121, 110, 116, 97, 120])])))] by kernel_rfl]at this
 have hR:laidMet Tryz.prog [("strconv.ErrRange", .iface "*errors.errorString" (.ptr (.agg [.lit (.string [118, 97, 108, 117, 101, 32, 111, 117, 116, 32, 111, 102, 32, 114, 97, 110, 103, 101])])))] W := by
  have := h0.filter (fun x=>x.1=="strconv.ErrRange")
  rwa [show (KV.filter fun x=>x.2.handleName?.isNone).filter (fun x=>x.1=="strconv.ErrRange")=[("strconv.ErrRange", .iface "*errors.errorString" (.ptr (.agg [.lit (.string [118, 97, 108, 117, 101, 32, 111, 117, 116, 32, 111, 102, 32, 114, 97, 110, 103, 101])])))] by kernel_rfl]at this
 refine⟨Lib.tabIs_of_head NN Vj Tryz.underlying218 Tryz.underlying154 OS OT hT,?_,?_⟩
 .obtain⟨a0,s0,a,-,-,-⟩:=laid_sentinel hS Qw Vk Tryz.underlying128 Rf Tryz.underlying212 Tryz.underlying214 rfl rfl Tryz.underlying9 KW Jb;exact⟨_,_,a⟩
 obtain⟨a0,s0,a,-,-,-⟩:=laid_sentinel hR Qx Vl Tryz.underlying128 Rf Tryz.underlying212 Tryz.underlying214 rfl rfl Tryz.underlying9 KW Jb;exact⟨_,_,a⟩
noncomputable def Dt(os:Os):World :=
 { World.doorLaid Tryz.prog 72 os with heap:=(World.doorLaid Tryz.prog 72 os).heap.modify 3 fun
  |.cells _ t frozen=>.cells (Go.Pinned.utf8FirstZ.map fun(z:Nat)=>Value.int .u8 z).toArray t frozen
  |o=>o }
theorem own:ownKnob Tryz.prog.godebug=none:=by kernel_rfl
theorem laid_met(os:Os)(args:Array Value):laidMetH Tryz.prog KV ((Dt os).forCall (fun _ _=>0) ⟨#[],args,[]⟩).memory :=
 laidMet_of_run3 8 (by kernel_rfl) (by kernel_rfl) (by kernel_rfl)
theorem TC(os:Os)(args:Array Value):((Dt os).forCall (fun _ _=>0) ⟨#[],args,[]⟩).variablesRefB Tryz.prog=true:=by kernel_rfl
theorem TD(os:Os)(args:Array Value):(((Dt os).forCall (fun _ _=>0) ⟨#[],args,[]⟩).heap.toList.drop Tryz.prog.globals.size).take ((begin Tryz.prog (fun _ _=>0) default).world.heap.size-Tryz.prog.globals.size) =
 (begin Tryz.prog (fun _ _=>0) default).world.heap.toList.drop Tryz.prog.globals.size:=by kernel_rfl
end Nt
end
section
open Go.RowKit Go.Shelf
namespace Nt
def B3(W:World)(b:Nat)(g:Bool)(n d:ByteArray):Prop:=W.heap[b]? = some (.cells #[.bool g,.string n,.string d] 34 (0,0))
theorem B3.lt{W:World}{b:Nat}{g:Bool}{n d:ByteArray}(h:B3 W b g n d):b<W.heap.size:=(Array.getElem?_eq_some_iff.1 h).1
theorem B3.facts{W:World}{b:Nat}{g:Bool}{n d:ByteArray}(h:B3 W b g n d):
 W.cell? ⟨b,0,none⟩=some (.bool g)/\W.cell? ⟨b,1,none⟩=some (.string n)/\W.cell? ⟨b,2,none⟩=some (.string d) /\
 W.frozen? ⟨b,0,none⟩=false/\W.frozen? ⟨b,1,none⟩=false/\W.frozen? ⟨b,2,none⟩=false:=by
 unfold B3 at h;simp[World.cell?,World.frozen?,h]
theorem B3.new(w:World)(g:Bool)(n d:ByteArray):B3 (w.alloc (.cells #[.bool g,.string n,.string d] 34)) w.heap.size g n d:=yM _ _
theorem B3.alloc{W:World}{b:Nat}{g:Bool}{n d:ByteArray}(h:B3 W b g n d)(o:Obj):B3 (W.alloc o) b g n d:=(yj W o b h.lt).trans h
theorem B3.below{W W':World}{b:Nat}{g:Bool}{n d:ByteArray}(h:B3 W b g n d)(hb:Below W.heap.size W W'):B3 W' b g n d:=(hb.block b h.lt).trans h
theorem B3.other{W:World}{b:Nat}{g:Bool}{n d:ByteArray}(h:B3 W b g n d){p:Addr}(hp:b≠p.block)(v:Value):B3 (W.setCell p v) b g n d:=(zg _ _ _ _ hp).trans h
theorem B3.set0{W:World}{b:Nat}{g:Bool}{n d:ByteArray}(h:B3 W b g n d)(g':Bool):B3 (W.setCell ⟨b,0,none⟩ (.bool g')) b g' n d:=by
 unfold B3 at h ⊢;simp[World.setCell,Array.getElem?_modify,h]
theorem B3.set1{W:World}{b:Nat}{g:Bool}{n d:ByteArray}(h:B3 W b g n d)(n':ByteArray):B3 (W.setCell ⟨b,1,none⟩ (.string n')) b g n' d:=by
 unfold B3 at h ⊢;simp[World.setCell,Array.getElem?_modify,h]
theorem B3.set2{W:World}{b:Nat}{g:Bool}{n d:ByteArray}(h:B3 W b g n d)(d':ByteArray):B3 (W.setCell ⟨b,2,none⟩ (.string d')) b g n d':=by
 unfold B3 at h ⊢;simp[World.setCell,Array.getElem?_modify,h]
theorem Vn(n:Nat):((num n).toList==[49])=decide (n=1):=by
 have e:(num 1).toList=[49]:=by rw[show num 1=⟨#[49]⟩ from UK,yR]
 rw[<-e,wO,xF,xt,yR,yR];constructor
 .intro h;have:=congrArg A4 h;have e1:A4 (num n).data.toList=n:=At n;have e2:A4 (num 1).data.toList=1:=At 1
  rwa [e1,e2]at this
 intro h;rw[h]
theorem TE(n:Nat):((num n).toList==[48])=decide (n=0):=by
 have e:(num 0).toList=[48]:=QR;rw[<-e,wO,xF,xt,yR,yR];constructor
 .intro h;have:=congrArg A4 h;have e1:A4 (num n).data.toList=n:=At n;have e2:A4 (num 0).data.toList=0:=At 0
  rwa [e1,e2]at this
 intro h;rw[h]
theorem Mm(g:Bool)(n d:ByteArray)(w:World)(hn:n.size<=140737488355328)(h:isN n=false):
 Calls Tryz.prog 66 #[.agg #[.bool g,.string n,.string d]] w fun e w'=>e=.returned (.bool false)/\Below w.heap.size w w':=by
 go_enter Tryz.func66,Tryz.ntmps66
 go_wp2_with fail
 refine(B5 n _ (by omega)).mono ?_;rintro e w1 ⟨rfl,a⟩;rw[h];go_wp2;go_ret;exact⟨rfl,((zI _ w).alloc (zA _) _).trans (a.mono (by simp))⟩
theorem Mn(g:Bool)(n d:ByteArray)(w:World)(hn:n.size<=140737488355328)(hd:d.size<=140737488355328)(h:isN n=true)(h':isN d=false):
 Calls Tryz.prog 66 #[.agg #[.bool g,.string n,.string d]] w fun e w'=>e=.returned (.bool false)/\Below w.heap.size w w':=by
 have H:=zh h';clear h';go_enter Tryz.func66,Tryz.ntmps66
 go_wp2_with fail
 refine(B5 n _ (by omega)).mono ?_;rintro e w1 ⟨rfl,aa⟩;rw[h];have q1:=(B3.new w g n d).below aa;obtain⟨a1,a2,a3,a4,a5,a6⟩:=q1.facts;have a:=zh (((zI _ w).alloc (zA _) _).trans (aa.mono (by simp)));replace q1:=zh q1;clear aa
 go_wp2_with fail
 refine(B5 d _ (by omega)).mono ?_;rintro e w2 ⟨rfl,ad⟩;rw[H.o];have ae:=zh (a.o.trans (ad.mono a.o.size));clear ad a;go_wp2;go_ret;exact⟨rfl,ae.o⟩
theorem FU(n:Nat):((T (some n)).toList==[49])=decide (n=1):=Vn n
theorem AF(n:Nat):((T (some n)).toList==[48])=decide (n=0):=TE n
theorem Mo(g:Bool)(a:Nat)(w:World)(ha:a<Lim):
 Calls Tryz.prog 66 #[.agg #[.bool g,.string (T (some a)),.string (T (some 0))]] w fun e w'=>e=.returned (.bool false)/\Below w.heap.size w w':=by
 have z:=AF 0;rw[zH rfl]at z;have h0:0<Lim:=by omega
 go_enter Tryz.func66,Tryz.ntmps66
 go_wp2_with fail
 refine(OM (some a) (Ah ha) _).mono ?_;rintro e w1 ⟨rfl,h⟩;rw[wM];have q1:=(B3.new w g (T (some a)) (T (some 0))).below h;obtain⟨a1,a2,a3,a4,a5,a6⟩:=q1.facts;have d:=zh (((zI _ w).alloc (zA _) _).trans (h.mono (by simp)));replace q1:=zh q1;clear h
 go_wp2_with fail
 refine(OM (some 0) (Ah h0) _).mono ?_;rintro e w2 ⟨rfl,aa⟩;rw[wM];obtain⟨b1,b2,b3,b4,b5,b6⟩:=(q1.o.below aa).facts;have ad:=zh (d.o.trans (aa.mono d.o.size));clear aa d;go_wp2;go_ret;exact⟨rfl,ad.o⟩
theorem Mp(g:Bool)(b:Nat)(w:World)(hb:b<Lim)(d:b≠0):
 Calls Tryz.prog 66 #[.agg #[.bool g,.string (T (some 0)),.string (T (some b))]] w fun e w'=>e=.returned (.bool (!g&&decide (b=1)))/\Below w.heap.size w w':=by
 obtain⟨r,hr⟩:∃r,r=decide (b=1):=⟨_,rfl⟩;rw[<-hr]
 cases g<;>cases r
 all_goals
  have z:=AF 0;rw[zH rfl]at z;have z2:=AF b;rw[zD d]at z2;have z3:=FU b;rw[<-hr]at z3;clear hr;have h0:0<Lim:=by omega
  replace d:=zh d;go_enter Tryz.func66,Tryz.ntmps66
  go_wp2_with fail
  refine(OM (some 0) (Ah h0) _).mono ?_;rintro e w1 ⟨rfl,h⟩;rw[wM];have q1:=(B3.new w _ (T (some 0)) (T (some b))).below h;obtain⟨a1,a2,a3,a4,a5,a6⟩:=q1.facts;have a:=zh (((zI _ w).alloc (zA _) _).trans (h.mono (by simp)));replace q1:=zh q1;clear h
  go_wp2_with fail
  refine(OM (some b) (Ah hb) _).mono ?_;rintro e w2 ⟨rfl,aa⟩;rw[wM];obtain⟨b1,b2,b3,b4,b5,b6⟩:=(q1.o.below aa).facts;have ad:=zh (a.o.trans (aa.mono a.o.size));clear aa a;go_wp2;go_ret;exact⟨rfl,ad.o⟩
theorem OU(g:Bool)(a b:Nat)(w:World)(hE:Env w)(ha:a<Lim)(hb:b<Lim)(aa:a≠0)(ad:b≠0):
 Calls Tryz.prog 66 #[.agg #[.bool g,.string (T (some a)),.string (T (some b))]] w fun e w'=>e=.returned (.bool (decide (Nat.gcd a b=1)))/\Below w.heap.size w w':=by
 have z:=AF a;rw[zD aa]at z;have z2:=AF b;rw[zD ad]at z2;have z3:=FU (Nat.gcd a b)
 have hG:Hid (Mh (some a) (some b)=some (Nat.gcd a b)/\Mi (some a) (some b)=0):=by
  have:=Fh ha hb;exact⟨by simp only[Mh,apO,JQ,zG this],by simp only[Mi,apE,zG this]⟩
 replace aa:=zh aa;replace ad:=zh ad;replace hE:=zh hE;go_enter Tryz.func66,Tryz.ntmps66
 go_wp2_with fail
 refine(OM (some a) (Ah ha) _).mono ?_;rintro e w1 ⟨rfl,ae⟩;rw[wM];have q1:=(B3.new w g (T (some a)) (T (some b))).below ae;obtain⟨a1,a2,a3,a4,a5,a6⟩:=q1.facts;have h:=zh (((zI _ w).alloc (zA _) _).trans (ae.mono (by simp)));replace q1:=zh q1;clear ae
 go_wp2_with fail
 refine(OM (some b) (Ah hb) _).mono ?_;rintro e w2 ⟨rfl,af⟩;rw[wM];obtain⟨b1,b2,b3,b4,b5,b6⟩:=(q1.o.below af).facts;have d:=zh (h.o.trans (af.mono h.o.size));clear af h q1
 go_wp2_with fail
 refine(QP (some a) (some b) _ (hE.o.below d.o) (Ah ha) (Ah hb)).mono ?_;rintro e w3 ⟨rfl,ag⟩;rw[hG.o.1,hG.o.2];have ah:=zh (d.o.trans (ag.mono d.o.size));clear ag d;go_wp2;go_ret;exact⟨rfl,ah.o⟩
theorem AP(g:Bool)(n d:ByteArray)(w:World)(hE:Env w)(hn:n.size<=140737488355328)(hd:d.size<=140737488355328):
 Calls Tryz.prog 66 #[.agg #[.bool g,.string n,.string d]] w fun e w'=>e=.returned (.bool (Au g n d))/\Below w.heap.size w w':=by
 cases h1:isN n with
 |false=>
  have e:Au g n d=false:=by unfold Au;rw[h1];rfl
  rw[e];exact Mm g n d w hn h1
 |true=>
  cases h2:isN d with
  |false=>
   have e:Au g n d=false:=by unfold Au;rw[h1,h2];rfl
   rw[e];exact Mn g n d w hn hd h1 h2
  |true=>
   obtain⟨a,ha,rfl⟩:=BI h1;obtain⟨b,hb,rfl⟩:=BI h2;rw[Fi g a b ha hb]
   by_cases hb0:b=0
   .subst hb0;simp only[decide_true,vr,xv];exact Mo g a w ha
   rw[zD hb0,vF,yo]
   by_cases ha0:a=0
   .rw[zG ha0];subst ha0;exact Mp g b w hb hb0
   rw[zF ha0];exact OU g a b w hE ha hb ha0 hb0
theorem D4(g:Bool)(a b:Nat)(w:World)(hE:Env w)(ha:a<Lim)(hb:b<Lim)(an:b≠0):
 Calls Tryz.prog 119 #[.bool g,.string (T (some a)),.string (T (some b))] w fun e w'=>e=.returned (.tuple #[qv (mkRat (sg g a) b),.int .i64 0])/\Below w.heap.size w w':=by
 have HV:=zh (Wa g a b an);obtain⟨G,am⟩:∃G,G=Nat.gcd a b:=⟨_,rfl⟩;have aj:G<Lim:=by rw[am];exact Fh ha hb
 have al:G≠0:=by rw[am];exact vW (Nat.gcd_pos_of_pos_right a (by omega))
 have hG:Hid (Mh (some a) (some b)=some G/\Mi (some a) (some b)=0):=by
  have:=Fh ha hb;rw[am];exact⟨by simp only[Mh,apO,JQ,zG this],by simp only[Mi,apE,zG this]⟩
 have ag:Hid (OK (some a) (some G)=some (a/G)/\OL (some a) (some G)=0):=⟨zF al,zF al⟩;have ah:Hid (OK (some b) (some G)=some (b/G)/\OL (some b) (some G)=0):=⟨zF al,zF al⟩;rw[<-am]at HV;have z:=AF (a/G);generalize hx:a/G=x at HV ag z;generalize hy:b/G=y at HV ah;replace hE:=zh hE;clear am al hx hy an;have key:(g=false)\/(g=true/\x=0)\/(g=true/\x≠0):=by cases g<;>simp<;>omega
 rcases key with rfl|⟨rfl,ai⟩|⟨rfl,ai⟩
 rotate_left
 .rw[zH ai]at HV z;replace ai:=zh ai;go_enter Tryz.func119,Tryz.ntmps119
  go_wp2_with fail
  refine(QP (some a) (some b) _ (hE.o.below ((zI _ w).alloc (zA _) _)) (Ah ha) (Ah hb)).mono ?_;rintro e w1 ⟨rfl,ae⟩;rw[hG.o.1,hG.o.2];have q1:=(B3.new w false ⟨#[]⟩ ⟨#[]⟩).below ae;have d:=zh (((zI _ w).alloc (zA _) _).trans (ae.mono (by simp)));have ao:=q1.lt;replace q1:=zh q1;clear ae
  go_wp2_with fail
  refine(Mj (some a) (some G) _ (hE.o.below (d.o.alloc d.o.size _)) (Ah ha) (Ah aj)).mono ?_;rintro e w2 ⟨rfl,h⟩;rw[ag.o.1,ag.o.2];have q2:=(q1.o.alloc _).below h;have r2:=(B3.new w1 true ⟨#[]⟩ ⟨#[]⟩).below h;have ad:=zh ((d.o.alloc d.o.size _).trans (h.mono (by have:=d.o.size;simp;omega)));obtain⟨c1,c2,c3,c4,c5,c6⟩:=r2.facts;have aq:=r2.lt;replace q2:=zh q2;replace r2:=zh r2;clear h q1
  go_wp2_with fail
  refine(Mj (some b) (some G) _ (hE.o.below (ad.o.setCell (by have:=d.o.size;simpa using this) _)) (Ah hb) (Ah aj)).mono ?_;rintro e w3 ⟨rfl,aa⟩;rw[ah.o.1,ah.o.2];have q3:=(q2.o.other (p:=⟨w1.heap.size,1,none⟩) (by simp;omega) _).below aa;have r3:=(r2.o.set1 (T (some x))).below aa;have ak:=zh ((ad.o.setCell (p:=⟨w1.heap.size,1,none⟩) (by have:=d.o.size;simpa using this) _).trans (aa.mono (by have:=ad.o.size;simpa using this)));have af:=d.o.size;obtain⟨d1,d2,d3,d4,d5,d6⟩:=q3.facts;obtain⟨e1,e2,e3,e4,e5,e6⟩:=r3.facts;have ar:=r3.lt;clear aa q2 r2 c1 c2 c3 c4 c5 c6;replace q3:=zh q3;replace r3:=zh r3;go_wp2;refine zf (v:=.tuple #[.agg #[.bool false,.string (T (some x)),.string (T (some y))],.int .i64 0]) (by simp[results,Tryz.results119,go_sem,d1,d2,d3]) rfl ⟨by rw[HV.o];rfl,?_⟩
  repeat refine zw ?_ (by first|exact zA _|exact af) _
  exact ak.o
 .rw[zD ai]at HV z;replace ai:=zh ai;go_enter Tryz.func119,Tryz.ntmps119
  go_wp2_with fail
  refine(QP (some a) (some b) _ (hE.o.below ((zI _ w).alloc (zA _) _)) (Ah ha) (Ah hb)).mono ?_;rintro e w1 ⟨rfl,ae⟩;rw[hG.o.1,hG.o.2];have q1:=(B3.new w false ⟨#[]⟩ ⟨#[]⟩).below ae;have d:=zh (((zI _ w).alloc (zA _) _).trans (ae.mono (by simp)));have ao:=q1.lt;replace q1:=zh q1;clear ae
  go_wp2_with fail
  refine(Mj (some a) (some G) _ (hE.o.below (d.o.alloc d.o.size _)) (Ah ha) (Ah aj)).mono ?_;rintro e w2 ⟨rfl,h⟩;rw[ag.o.1,ag.o.2];have q2:=(q1.o.alloc _).below h;have r2:=(B3.new w1 true ⟨#[]⟩ ⟨#[]⟩).below h;have ad:=zh ((d.o.alloc d.o.size _).trans (h.mono (by have:=d.o.size;simp;omega)));obtain⟨c1,c2,c3,c4,c5,c6⟩:=r2.facts;have aq:=r2.lt;replace q2:=zh q2;replace r2:=zh r2;clear h q1
  go_wp2_with fail
  refine(Mj (some b) (some G) _ (hE.o.below (ad.o.setCell (by have:=d.o.size;simpa using this) _)) (Ah hb) (Ah aj)).mono ?_;rintro e w3 ⟨rfl,aa⟩;rw[ah.o.1,ah.o.2];have q3:=(q2.o.other (p:=⟨w1.heap.size,1,none⟩) (by simp;omega) _).below aa;have r3:=(r2.o.set1 (T (some x))).below aa;have ak:=zh ((ad.o.setCell (p:=⟨w1.heap.size,1,none⟩) (by have:=d.o.size;simpa using this) _).trans (aa.mono (by have:=ad.o.size;simpa using this)));have af:=d.o.size;obtain⟨d1,d2,d3,d4,d5,d6⟩:=q3.facts;obtain⟨e1,e2,e3,e4,e5,e6⟩:=r3.facts;have ar:=r3.lt;clear aa q2 r2 c1 c2 c3 c4 c5 c6;replace q3:=zh q3;replace r3:=zh r3;go_wp2;refine zf (v:=.tuple #[.agg #[.bool true,.string (T (some x)),.string (T (some y))],.int .i64 0]) (by simp[results,Tryz.results119,go_sem,d1,d2,d3]) rfl ⟨by rw[HV.o];rfl,?_⟩
  repeat refine zw ?_ (by first|exact zA _|exact af) _
  exact ak.o
 go_enter Tryz.func119,Tryz.ntmps119
 go_wp2_with fail
 refine(QP (some a) (some b) _ (hE.o.below ((zI _ w).alloc (zA _) _)) (Ah ha) (Ah hb)).mono ?_;rintro e w1 ⟨rfl,ae⟩;rw[hG.o.1,hG.o.2];have q1:=(B3.new w false ⟨#[]⟩ ⟨#[]⟩).below ae;have d:=zh (((zI _ w).alloc (zA _) _).trans (ae.mono (by simp)));have ao:=q1.lt;replace q1:=zh q1;clear ae
 go_wp2_with fail
 refine(Mj (some a) (some G) _ (hE.o.below (d.o.alloc d.o.size _)) (Ah ha) (Ah aj)).mono ?_;rintro e w2 ⟨rfl,h⟩;rw[ag.o.1,ag.o.2];have q2:=(q1.o.alloc _).below h;have r2:=(B3.new w1 false ⟨#[]⟩ ⟨#[]⟩).below h;have ad:=zh ((d.o.alloc d.o.size _).trans (h.mono (by have:=d.o.size;simp;omega)));obtain⟨c1,c2,c3,c4,c5,c6⟩:=r2.facts;have aq:=r2.lt;replace q2:=zh q2;replace r2:=zh r2;clear h q1
 go_wp2_with fail
 refine(Mj (some b) (some G) _ (hE.o.below (ad.o.setCell (by have:=d.o.size;simpa using this) _)) (Ah hb) (Ah aj)).mono ?_;rintro e w3 ⟨rfl,aa⟩;rw[ah.o.1,ah.o.2];have q3:=(q2.o.other (p:=⟨w1.heap.size,1,none⟩) (by simp;omega) _).below aa;have r3:=(r2.o.set1 (T (some x))).below aa;have ak:=zh ((ad.o.setCell (p:=⟨w1.heap.size,1,none⟩) (by have:=d.o.size;simpa using this) _).trans (aa.mono (by have:=ad.o.size;simpa using this)));have af:=d.o.size;obtain⟨d1,d2,d3,d4,d5,d6⟩:=q3.facts;obtain⟨e1,e2,e3,e4,e5,e6⟩:=r3.facts;have ar:=r3.lt;clear aa q2 r2 c1 c2 c3 c4 c5 c6;replace q3:=zh q3;replace r3:=zh r3;go_wp2;refine zf (v:=.tuple #[.agg #[.bool false,.string (T (some x)),.string (T (some y))],.int .i64 0]) (by simp[results,Tryz.results119,go_sem,d1,d2,d3]) rfl ⟨by rw[HV.o];rfl,?_⟩
 repeat refine zw ?_ (by first|exact zA _|exact af) _
 exact ak.o
theorem Wc:(Tryz.prog.info? 9).map (fun i=>(i.zero,i.size,i.bytes))=some (some (.string ⟨#[]⟩),1,16):=by kernel_rfl
def FV(ks:List Nat):List Value:=ks.map fun k=>Value.string (T (some k))
def Ey(W:World)(v:Value)(ks:List Nat):Prop:=∃g cap,v=.slice (some ⟨g,0,none⟩) ks.length cap/\g<W.heap.size/\∀i (h:i<ks.length),W.cell? ⟨g,i,none⟩=some (.string (T (some ks[i])))
theorem Mq(ks:List Nat)(k:Nat):FV ks++[Value.string (T (some k))]=FV (ks++[k]):=by simp[FV]
theorem FW{B:Nat}{W:World}{v:Value}{ks:List Nat}(h:W.ownsRow B 9 1 v ks.length (FV ks))(h0:ks≠[]):Ey W v ks:=by
 rcases id h.2 with⟨rfl,hx⟩|⟨g,cap,cur,rfl,hg,hh,hn,a,d,ht⟩
 .exact absurd (List.length_eq_zero_iff.1 hx) h0
 refine⟨g,cap,rfl,(Array.getElem?_eq_some_iff.1 hh).1,fun i hi=>?_⟩;rw[World.ownsRow.cellAt h i (by omega)];simp[FV,hi]
def Ez(W:World)(b:Nat)(ps:List (Nat×Nat)):Prop:=∀i (h:i<ps.length),W.cell? ⟨b,i*2,none⟩=some (.string (T (some ps[i].1)))/\W.cell? ⟨b,i*2+1,none⟩=some (.string (T (some ps[i].2)))
def Ed(ps:List (Nat×Nat)):List Nat:=ps.map fun p=>p.1*p.2
def Wd(w:World)(ps:List (Nat×Nat))(k:Nat)(v:Value)(wr:World):Prop :=
 wr.ownsRow w.heap.size 9 1 v (Ed (ps.take k)).length (FV (Ed (ps.take k)))/\Below w.heap.size w wr
theorem Idq{B:Nat}{e:TypeId}{size:Nat}{w w':World}{v:Value}{n:Nat}{xs:List Value}(h:w.ownsRow B e size v n xs)(hb:Below w.heap.size w w'):w'.ownsRow B e size v n xs:=by
 obtain⟨h1,h2⟩:=h;refine⟨h1,?_⟩
 rcases h2 with h2|⟨g,cap,cur,hv,hg,hh,r⟩
 .exact Or.inl h2
 exact Or.inr ⟨g,cap,cur,hv,hg,by rw[hb.block g (Array.getElem?_eq_some_iff.1 hh).1];exact hh,r⟩
theorem Mr(s:ByteArray):∀u∈[Value.string s],u.oneCell'=true:=by
 intro u hu;simp at hu;subst hu;rfl
theorem Dj(w:World)(hE:Env w)(b cap:Nat)(ps:List (Nat×Nat))(hb:b<w.heap.size)(hl:ps.length<=100)(hp:Ez w b ps)(hs:∀p∈ps,p.1<Lim/\p.2<Lim/\p.1*p.2<Lim):
 Calls Tryz.prog 118 #[.slice (some ⟨b,0,none⟩) ps.length cap] w fun e w'=>(∃v,e=.returned v/\w'.ownsRow w.heap.size 9 1 v (Ed ps).length (FV (Ed ps)))/\Below w.heap.size w w':=by
 obtain⟨i0,hi,ag,ah,ai⟩:=vO Wc;have HP:=zh hp;have HS:=zh hs;replace hE:=zh hE;clear hp hs;go_enter Tryz.func118,Tryz.ntmps118;go_wp2
 go_loopw [3,10] (fun v i wr=>∃k:Nat,k<=ps.length/\i=.int .i64 (k:Int)/\Wd w ps k v wr) (fun _ i _=>ps.length-(intOf i).toNat)
 case atStart=>exact⟨0,zP _,rfl,yU _ _ _ _,zI _ _⟩
 case round=>
  obtain⟨k,hk,rfl,z1,z2⟩:=hrel;have af:=z2.size
  by_cases hlt:k<ps.length
  .obtain ⟨x,hx⟩:∃x,x=ps[k].1:=⟨_,rfl⟩;obtain⟨y,hy⟩:∃y,y=ps[k].2:=⟨_,rfl⟩;obtain⟨h,aa⟩:=HP.o k hlt;obtain⟨s1,s2,s3⟩:=HS.o _ (zN hlt);rw[<-hx]at h s1 s3;rw[<-hy]at aa s2 s3;have c1:=(z2.cell (p:=⟨b,k*2,none⟩) hb).trans h;have c2:=(z2.cell (p:=⟨b,k*2+1,none⟩) hb).trans aa;have hM:Hid (QL (some x) (some y)=some (x*y)/\QM (some x) (some y)=0):=⟨by simp only[QL,apO,JQ,zG s3],by simp only[QM,apE,zG s3]⟩
   have hN:Hid (Ed (ps.take (k+1))=Ed (ps.take k)++[x*y]):=by
    unfold Hid Ed;rw[zO hlt,xG,hx,hy];rfl
   have hL:Hid ((Ed (ps.take k)).length=k):=by unfold Hid Ed;simp;omega
   replace z1:=zh z1;replace z2:=zh z2;clear h aa hx hy
   go_wp2_with fail
   refine(VX (some x) (some y) _ (hE.o.below (z2.o.alloc af _)) (Ah s1) (Ah s2)).mono ?_;rintro e w1 ⟨rfl,a⟩;rw[hM.o.1,hM.o.2];have ad:=zh ((z2.o.alloc af _).trans (a.mono (by simp;omega)));have ho:Hid (w1.ownsRow w.heap.size 9 1 u3 (Ed (ps.take k)).length (FV (Ed (ps.take k)))):=Idq (z1.o.alloc _) a;have aj:=ad.o.size;clear a z1 z2
   go_wp2_with (at_builtin;refine xx _ rfl _ _ 22 rfl w.heap.size 9 i0 (.string ⟨#[]⟩) 1 16 Tryz.underlying22 hi ag ah ai rfl (by decide) u3 (Ed (ps.take k)).length (FV (Ed (ps.take k))) rfl (ho.o.alloc _) ⟨w1.heap.size,0,none⟩ 1 1 [.string (T (some (x*y)))] rfl rfl (Co _ _ _) (Mr _) (by have:=hL.o;unfold maxLen;omega) (by have:=hL.o;omega) (by simp;omega) ?_;intro v2 w2 d ae _)
   refine⟨⟨k+1,by omega,by go_num,?_,(ad.o.alloc (by omega) _).grown ae (by simp;omega) (fun b e=>(ho.o.lt b e).1)⟩,by simp only[intOf];omega⟩;rw[hN.o,<-Mq,zX];exact d
  obtain rfl:k=ps.length:=by omega
  have e:ps.take ps.length=ps:=yK (zA _);rw[e]at z1;replace z1:=zh z1;replace z2:=zh z2;clear e;go_wp2;go_ret;exact⟨⟨_,rfl,z1.o⟩,z2.o⟩
theorem Cs{B:Nat}{a w:World}(h:Below B a w)(n:Nat):Below B a (w.drewN n):=⟨h.os,h.tape,h.output,h.size,h.block⟩
def SumBoxes(W:World)(B:Nat)(g1 g2:Bool)(a b c d:Nat):Prop :=
 B3 W B g1 (T (some a)) (T (some b))/\B3 W (B+1) g2 (T (some c)) (T (some d))/\B3 W (B+1+1) false ⟨#[]⟩ ⟨#[]⟩
abbrev DE(w:World)(g1 g2:Bool)(a b c d:Nat):World :=
 ((w.alloc (.cells #[.bool g1,.string (T (some a)),.string (T (some b))] 34)).alloc (.cells #[.bool g2,.string (T (some c)),.string (T (some d))] 34)).alloc (.cells #[.bool false,.string ⟨#[]⟩,.string ⟨#[]⟩] 34)
theorem SumBoxes.new(w:World)(g1 g2:Bool)(a b c d:Nat):SumBoxes (DE w g1 g2 a b c d) w.heap.size g1 g2 a b c d:=by
 have e1:(w.alloc (.cells #[.bool g1,.string (T (some a)),.string (T (some b))] 34)).heap.size=w.heap.size+1:=by simp
 have e2:((w.alloc (.cells #[.bool g1,.string (T (some a)),.string (T (some b))] 34)).alloc (.cells #[.bool g2,.string (T (some c)),.string (T (some d))] 34)).heap.size=w.heap.size+1+1:=by simp
 refine⟨((B3.new w _ _ _).alloc _).alloc _,?_,?_⟩
 .have h:=B3.new (w.alloc (.cells #[.bool g1,.string (T (some a)),.string (T (some b))] 34)) g2 (T (some c)) (T (some d));rw[e1]at h;exact h.alloc _
 have h:=B3.new ((w.alloc (.cells #[.bool g1,.string (T (some a)),.string (T (some b))] 34)).alloc (.cells #[.bool g2,.string (T (some c)),.string (T (some d))] 34)) false ⟨#[]⟩ ⟨#[]⟩;rw[e2]at h;exact h
theorem BX(w:World)(g1 g2:Bool)(a b c d:Nat):Below w.heap.size w (DE w g1 g2 a b c d) :=
 (((zI _ w).alloc (zA _) _).alloc (by simp) _).alloc (by simp;omega) _
theorem SumBoxes.alloc{W:World}{B:Nat}{g1 g2:Bool}{a b c d:Nat}(h:SumBoxes W B g1 g2 a b c d)(o:Obj):SumBoxes (W.alloc o) B g1 g2 a b c d:=⟨h.1.alloc o,h.2.1.alloc o,h.2.2.alloc o⟩
theorem SumBoxes.below{W W':World}{B:Nat}{g1 g2:Bool}{a b c d:Nat}(h:SumBoxes W B g1 g2 a b c d)(hb:Below W.heap.size W W'):SumBoxes W' B g1 g2 a b c d:=⟨h.1.below hb,h.2.1.below hb,h.2.2.below hb⟩
theorem Ms{W:World}{v:Value}{x y z:Nat}(h:Ey W v [x,y,z]):∃g cap,v=.slice (some ⟨g,0,none⟩) 3 cap/\W.cell? ⟨g,0,none⟩=some (.string (T (some x)))/\W.cell? ⟨g,1,none⟩=some (.string (T (some y)))/\W.cell? ⟨g,2,none⟩=some (.string (T (some z))):=by
 obtain⟨g,cap,rfl,hg,hc⟩:=h;exact⟨g,cap,rfl,hc 0 (by simp),hc 1 (by simp),hc 2 (by simp)⟩
theorem Vo{W:World}{v:Value}{x y:Nat}(h:Ey W v [x,y]):∃g cap,v=.slice (some ⟨g,0,none⟩) 2 cap/\g<W.heap.size/\W.cell? ⟨g,0,none⟩=some (.string (T (some x)))/\W.cell? ⟨g,1,none⟩=some (.string (T (some y))):=by
 obtain⟨g,cap,rfl,hg,hc⟩:=h;exact⟨g,cap,rfl,hg,hc 0 (by simp),hc 1 (by simp)⟩
theorem Mt(W:World)(x1 y1 x2 y2 x3 y3:Nat):
 Ez (W.alloc (.cells #[.string (T (some x1)),.string (T (some y1)),.string (T (some x2)),.string (T (some y2)),.string (T (some x3)),.string (T (some y3))] 141)) W.heap.size [(x1,y1),(x2,y2),(x3,y3)]:=by
 intro i hi;have h:=yM W (.cells #[.string (T (some x1)),.string (T (some y1)),.string (T (some x2)),.string (T (some y2)),.string (T (some x3)),.string (T (some y3))] 141)
 match i,hi with
 |0,_=>simp only[World.cell?,h];exact⟨rfl,rfl⟩
 |1,_=>simp only[World.cell?,h];exact⟨rfl,rfl⟩
 |2,_=>simp only[World.cell?,h];exact⟨rfl,rfl⟩
 |n+3,hi=>simp at hi;omega
theorem Vp(W:World)(x1 y1 x2 y2:Nat):
 Ez (W.alloc (.cells #[.string (T (some x1)),.string (T (some y1)),.string (T (some x2)),.string (T (some y2))] 141)) W.heap.size [(x1,y1),(x2,y2)]:=by
 intro i hi;have h:=yM W (.cells #[.string (T (some x1)),.string (T (some y1)),.string (T (some x2)),.string (T (some y2))] 141)
 match i,hi with
 |0,_=>simp only[World.cell?,h];exact⟨rfl,rfl⟩
 |1,_=>simp only[World.cell?,h];exact⟨rfl,rfl⟩
 |n+2,hi=>simp at hi;omega
theorem OV(g1:Bool)(a b c d:Nat)(w:World)(hE:Env w)(ha:a<L1)(hb:b<L1)(hc:c<L1)(hd:d<L1)(al:b≠0)(am:d≠0):
 Calls Tryz.prog 73 #[.agg #[.bool g1,.string (T (some a)),.string (T (some b))],.agg #[.bool g1,.string (T (some c)),.string (T (some d))]] w fun e w'=>e=.returned (.tuple #[qv (mkRat (sg g1 (a*d+c*b)) (b*d)),.int .i64 0])/\Below w.heap.size w w':=by
 have ai:b*d≠0:=wA al am;have HS:=zh (And.intro (CI ha hd) (And.intro (CI hc hb) (And.intro (CI hb hd) Ja)))
 have HP:Hid (∀p∈[(a,d),(c,b),(b,d)],p.1<Lim/\p.2<Lim/\p.1*p.2<Lim):=by
  have:=HS.o;intro p hp;simp only[xW,xI,vM]at hp
  rcases hp with rfl|rfl|rfl
  .exact⟨AI ha,AI hd,by show a*d<Lim;omega⟩
  .exact⟨AI hc,AI hb,by show c*b<Lim;omega⟩
  exact⟨AI hb,AI hd,by show b*d<Lim;omega⟩
 have ao:Hid (Ez ((DE w g1 g1 a b c d).alloc (.cells #[.string (T (some a)),.string (T (some d)),.string (T (some c)),.string (T (some b)),.string (T (some b)),.string (T (some d))] 141)) (w.heap.size+1+1+1) [(a,d),(c,b),(b,d)]):=by
  have:=Mt (DE w g1 g1 a b c d) a d c b b d
  rwa [show (DE w g1 g1 a b c d).heap.size=w.heap.size+1+1+1 by simp]at this
 have ad:Hid (Below w.heap.size w ((DE w g1 g1 a b c d).alloc (.cells #[.string (T (some a)),.string (T (some d)),.string (T (some c)),.string (T (some b)),.string (T (some b)),.string (T (some d))] 141))):=(BX w g1 g1 a b c d).alloc (BX w g1 g1 a b c d).size _;have aq:Hid (SumBoxes ((DE w g1 g1 a b c d).alloc (.cells #[.string (T (some a)),.string (T (some d)),.string (T (some c)),.string (T (some b)),.string (T (some b)),.string (T (some d))] 141)) w.heap.size g1 g1 a b c d):=(SumBoxes.new w g1 g1 a b c d).alloc _;replace hE:=zh hE;replace ai:=zh ai;clear ha hb hc hd al am
 have hA:Hid (Vf (some (a*d)) (some (c*b))=some (a*d+c*b)/\Vg (some (a*d)) (some (c*b))=0):=by
  have:=HS.o;have h:a*d+c*b<Lim:=by omega
  exact⟨by simp only[Vf,apO,JQ,zG h],by simp only[Vg,apE,zG h]⟩
 go_enter Tryz.func73,Tryz.ntmps73
 go_wp2_with fail
 refine(Dj _ (hE.o.below ad.o) (w.heap.size+1+1+1) 3 [(a,d),(c,b),(b,d)] (by simp) (by simp) ao.o HP.o).mono ?_;rintro e w1 ⟨⟨v,rfl,ho⟩,af⟩;have ak:Ey w1 v [a*d,c*b,b*d]:=FW ho (by simp);obtain⟨lg,lcap,rfl,l0,l1,l2⟩:=Ms ak;have q1:=aq.o.below af;have aj:=zh (ad.o.trans (af.mono ad.o.size));obtain⟨a1,a2,a3,a4,a5,a6⟩:=q1.1.facts;obtain⟨b1,b2,b3,b4,b5,b6⟩:=q1.2.1.facts;obtain⟨c1,c2,c3,c4,c5,c6⟩:=q1.2.2.facts;have ar:=q1.2.2.lt;replace q1:=zh q1;clear af ak ho
 go_wp2_with fail
 show Code.wp _ _ _ _ _
 go_quiet (fail)
 obtain⟨W,hW⟩:∃W,W=w1.drewN nq:=⟨_,rfl⟩;have qW:Hid (SumBoxes W w.heap.size g1 g1 a b c d):=by rw[hW];exact q1.o
 have ae:Hid (Below w.heap.size w W):=by rw[hW];exact Cs aj.o nq
 rw[<-hW];clear a1 a2 a3 a4 a5 a6 b1 b2 b3 b4 b5 b6 c1 c2 c3 c4 c5 c6 ar l0 l1 l2 hW q1 aj;obtain⟨a1,a2,a3,a4,a5,a6⟩:=qW.o.1.facts;obtain⟨b1,b2,b3,b4,b5,b6⟩:=qW.o.2.1.facts
 go_wp2_with fail
 refine(WB (some (a*d)) (some (c*b)) _ (hE.o.below ae.o) (Ah (by have:=HS.o;omega)) (Ah (by have:=HS.o;omega))).mono ?_;rintro e w2 ⟨rfl,ag⟩;rw[hA.o.1,hA.o.2];have q2:=qW.o.below ag;have aa:=zh (ae.o.trans (ag.mono ae.o.size));clear a1 a2 a3 a4 a5 a6 b1 b2 b3 b4 b5 b6 ag;obtain⟨a1,a2,a3,a4,a5,a6⟩:=q2.1.facts;obtain⟨b1,b2,b3,b4,b5,b6⟩:=q2.2.1.facts;replace q2:=zh q2
 go_wp2_with fail
 refine(D4 g1 (a*d+c*b) (b*d) _ (hE.o.below aa.o) (by have:=HS.o;omega) (by have:=HS.o;omega) ai.o).mono ?_;rintro e w3 ⟨rfl,ah⟩;have q3:=q2.o.below ah;have an:=zh (aa.o.trans (ah.mono aa.o.size));clear a1 a2 a3 a4 a5 a6 b1 b2 b3 b4 b5 b6 ah;obtain⟨c1,c2,c3,c4,c5,c6⟩:=q3.2.2.facts;replace q3:=zh q3;unfold qv;go_wp2;refine zf (v:=.tuple #[.agg #[.bool (decide ((mkRat (sg g1 (a*d+c*b)) (b*d)).num<0)),.string (T (some (mkRat (sg g1 (a*d+c*b)) (b*d)).num.natAbs)),.string (T (some (mkRat (sg g1 (a*d+c*b)) (b*d)).den))],.int .i64 0]) (by simp[results,Tryz.results73,go_sem,c1,c2,c3]) rfl ⟨rfl,?_⟩
 repeat refine zw ?_ (by simp only[];omega) _
 exact an.o
theorem OW(g1 g2:Bool)(a b c d:Nat)(w:World)(hE:Env w)(ha:a<L1)(hb:b<L1)(hc:c<L1)(hd:d<L1)(an:b≠0)(ao:d≠0)(hg:(g1==g2)=false)(hl:a*d<c*b):
 Calls Tryz.prog 73 #[.agg #[.bool g1,.string (T (some a)),.string (T (some b))],.agg #[.bool g2,.string (T (some c)),.string (T (some d))]] w fun e w'=>e=.returned (.tuple #[qv (mkRat (sg g2 (c*b-a*d)) (b*d)),.int .i64 0])/\Below w.heap.size w w':=by
 have aj:b*d≠0:=wA an ao;have HS:=zh (And.intro (CI ha hd) (And.intro (CI hc hb) (And.intro (CI hb hd) Ja)))
 have HP:Hid (∀p∈[(a,d),(c,b),(b,d)],p.1<Lim/\p.2<Lim/\p.1*p.2<Lim):=by
  have:=HS.o;intro p hp;simp only[xW,xI,vM]at hp
  rcases hp with rfl|rfl|rfl
  .exact⟨AI ha,AI hd,by show a*d<Lim;omega⟩
  .exact⟨AI hc,AI hb,by show c*b<Lim;omega⟩
  exact⟨AI hb,AI hd,by show b*d<Lim;omega⟩
 have au:Hid (Ez ((DE w g1 g2 a b c d).alloc (.cells #[.string (T (some a)),.string (T (some d)),.string (T (some c)),.string (T (some b)),.string (T (some b)),.string (T (some d))] 141)) (w.heap.size+1+1+1) [(a,d),(c,b),(b,d)]):=by
  have:=Mt (DE w g1 g2 a b c d) a d c b b d
  rwa [show (DE w g1 g2 a b c d).heap.size=w.heap.size+1+1+1 by simp]at this
 have ad:Hid (Below w.heap.size w ((DE w g1 g2 a b c d).alloc (.cells #[.string (T (some a)),.string (T (some d)),.string (T (some c)),.string (T (some b)),.string (T (some b)),.string (T (some d))] 141))):=(BX w g1 g2 a b c d).alloc (BX w g1 g2 a b c d).size _;have av:Hid (SumBoxes ((DE w g1 g2 a b c d).alloc (.cells #[.string (T (some a)),.string (T (some d)),.string (T (some c)),.string (T (some b)),.string (T (some b)),.string (T (some d))] 141)) w.heap.size g1 g2 a b c d):=(SumBoxes.new w g1 g2 a b c d).alloc _;replace hE:=zh hE;replace aj:=zh aj;clear ha hb hc hd an ao;have ar:Hid (TB (some (a*d)) (some (c*b))=0):=rfl;have al:Hid (T9 (some (c*b)) (some (a*d))=some (c*b-a*d)/\TA (some (c*b)) (some (a*d))=0):=⟨zG (by omega),zG (by omega)⟩;have hC:Hid (QN (some (a*d)) (some (c*b))=-1):=Cy hl;replace hl:=zh hl;go_enter Tryz.func73,Tryz.ntmps73
 go_wp2_with fail
 refine(Dj _ (hE.o.below ad.o) (w.heap.size+1+1+1) 3 [(a,d),(c,b),(b,d)] (by simp) (by simp) au.o HP.o).mono ?_;rintro e w1 ⟨⟨v,rfl,ho⟩,af⟩;have am:Ey w1 v [a*d,c*b,b*d]:=FW ho (by simp);obtain⟨lg,lcap,rfl,l0,l1,l2⟩:=Ms am;have q1:=av.o.below af;have ak:=zh (ad.o.trans (af.mono ad.o.size));obtain⟨a1,a2,a3,a4,a5,a6⟩:=q1.1.facts;obtain⟨b1,b2,b3,b4,b5,b6⟩:=q1.2.1.facts;obtain⟨c1,c2,c3,c4,c5,c6⟩:=q1.2.2.facts;have aw:=q1.2.2.lt;replace q1:=zh q1;clear af am ho
 go_wp2_with fail
 show Code.wp _ _ _ _ _
 go_quiet (fail)
 obtain⟨W,hW⟩:∃W,W=w1.drewN nq:=⟨_,rfl⟩;have qW:Hid (SumBoxes W w.heap.size g1 g2 a b c d):=by rw[hW];exact q1.o
 have ae:Hid (Below w.heap.size w W):=by rw[hW];exact Cs ak.o nq
 rw[<-hW];clear a1 a2 a3 a4 a5 a6 b1 b2 b3 b4 b5 b6 c1 c2 c3 c4 c5 c6 aw l0 l1 l2 hW q1 ak;obtain⟨a1,a2,a3,a4,a5,a6⟩:=qW.o.1.facts;obtain⟨b1,b2,b3,b4,b5,b6⟩:=qW.o.2.1.facts
 go_wp2_with fail
 refine(VZ (some (a*d)) (some (c*b)) _ (hE.o.below ae.o) (Ah (by have:=HS.o;omega)) (Ah (by have:=HS.o;omega))).mono ?_;rintro e w2 ⟨rfl,ag⟩;rw[hC.o,ar.o];have q2:=qW.o.below ag;have h:=zh (ae.o.trans (ag.mono ae.o.size));clear a1 a2 a3 a4 a5 a6 b1 b2 b3 b4 b5 b6 ag;obtain⟨a1,a2,a3,a4,a5,a6⟩:=q2.1.facts;obtain⟨b1,b2,b3,b4,b5,b6⟩:=q2.2.1.facts;replace q2:=zh q2
 go_wp2_with fail
 refine(VY (some (c*b)) (some (a*d)) _ (hE.o.below h.o) (Ah (by have:=HS.o;omega)) (Ah (by have:=HS.o;omega))).mono ?_;rintro e w3 ⟨rfl,ah⟩;rw[al.o.1,al.o.2];have q3:=q2.o.below ah;have aa:=zh (h.o.trans (ah.mono h.o.size));clear a1 a2 a3 a4 a5 a6 b1 b2 b3 b4 b5 b6 ah;obtain⟨a1,a2,a3,a4,a5,a6⟩:=q3.1.facts;obtain⟨b1,b2,b3,b4,b5,b6⟩:=q3.2.1.facts;replace q3:=zh q3
 go_wp2_with fail
 refine(D4 g2 (c*b-a*d) (b*d) _ (hE.o.below aa.o) (by have:=HS.o;omega) (by have:=HS.o;omega) aj.o).mono ?_;rintro e w4 ⟨rfl,ai⟩;have q4:=q3.o.below ai;have aq:=zh (aa.o.trans (ai.mono aa.o.size));clear a1 a2 a3 a4 a5 a6 b1 b2 b3 b4 b5 b6 ai;obtain⟨c1,c2,c3,c4,c5,c6⟩:=q4.2.2.facts;replace q4:=zh q4;unfold qv;go_wp2;refine zf (v:=.tuple #[.agg #[.bool (decide ((mkRat (sg g2 (c*b-a*d)) (b*d)).num<0)),.string (T (some (mkRat (sg g2 (c*b-a*d)) (b*d)).num.natAbs)),.string (T (some (mkRat (sg g2 (c*b-a*d)) (b*d)).den))],.int .i64 0]) (by simp[results,Tryz.results73,go_sem,c1,c2,c3]) rfl ⟨rfl,?_⟩
 repeat refine zw ?_ (by simp only[];omega) _
 exact aq.o
theorem OX(g1 g2:Bool)(a b c d:Nat)(w:World)(hE:Env w)(ha:a<L1)(hb:b<L1)(hc:c<L1)(hd:d<L1)(an:b≠0)(aq:d≠0)(hg:(g1==g2)=false)(hl:c*b<=a*d):
 Calls Tryz.prog 73 #[.agg #[.bool g1,.string (T (some a)),.string (T (some b))],.agg #[.bool g2,.string (T (some c)),.string (T (some d))]] w fun e w'=>e=.returned (.tuple #[qv (mkRat (sg g1 (a*d-c*b)) (b*d)),.int .i64 0])/\Below w.heap.size w w':=by
 have aj:b*d≠0:=wA an aq;have HS:=zh (And.intro (CI ha hd) (And.intro (CI hc hb) (And.intro (CI hb hd) Ja)))
 have HP:Hid (∀p∈[(a,d),(c,b),(b,d)],p.1<Lim/\p.2<Lim/\p.1*p.2<Lim):=by
  have:=HS.o;intro p hp;simp only[xW,xI,vM]at hp
  rcases hp with rfl|rfl|rfl
  .exact⟨AI ha,AI hd,by show a*d<Lim;omega⟩
  .exact⟨AI hc,AI hb,by show c*b<Lim;omega⟩
  exact⟨AI hb,AI hd,by show b*d<Lim;omega⟩
 have av:Hid (Ez ((DE w g1 g2 a b c d).alloc (.cells #[.string (T (some a)),.string (T (some d)),.string (T (some c)),.string (T (some b)),.string (T (some b)),.string (T (some d))] 141)) (w.heap.size+1+1+1) [(a,d),(c,b),(b,d)]):=by
  have:=Mt (DE w g1 g2 a b c d) a d c b b d
  rwa [show (DE w g1 g2 a b c d).heap.size=w.heap.size+1+1+1 by simp]at this
 have ad:Hid (Below w.heap.size w ((DE w g1 g2 a b c d).alloc (.cells #[.string (T (some a)),.string (T (some d)),.string (T (some c)),.string (T (some b)),.string (T (some b)),.string (T (some d))] 141))):=(BX w g1 g2 a b c d).alloc (BX w g1 g2 a b c d).size _;have aw:Hid (SumBoxes ((DE w g1 g2 a b c d).alloc (.cells #[.string (T (some a)),.string (T (some d)),.string (T (some c)),.string (T (some b)),.string (T (some b)),.string (T (some d))] 141)) w.heap.size g1 g2 a b c d):=(SumBoxes.new w g1 g2 a b c d).alloc _;replace hE:=zh hE;replace aj:=zh aj;clear ha hb hc hd an aq;have au:Hid (TB (some (a*d)) (some (c*b))=0):=rfl;have al:Hid (T9 (some (a*d)) (some (c*b))=some (a*d-c*b)/\TA (some (a*d)) (some (c*b))=0):=⟨zG (by omega),zG (by omega)⟩;obtain⟨cv,ao,ay⟩:∃cv:Int,cv=QN (some (a*d)) (some (c*b))/\0<=cv:=⟨_,rfl,by show 0<=Bp (a*d) (c*b);unfold Bp;rw[zF (by omega)];split<;>omega⟩;have hC:Hid (QN (some (a*d)) (some (c*b))=cv):=ao.symm;clear ao;replace hl:=zh hl;go_enter Tryz.func73,Tryz.ntmps73
 go_wp2_with fail
 refine(Dj _ (hE.o.below ad.o) (w.heap.size+1+1+1) 3 [(a,d),(c,b),(b,d)] (by simp) (by simp) av.o HP.o).mono ?_;rintro e w1 ⟨⟨v,rfl,ho⟩,af⟩;have am:Ey w1 v [a*d,c*b,b*d]:=FW ho (by simp);obtain⟨lg,lcap,rfl,l0,l1,l2⟩:=Ms am;have q1:=aw.o.below af;have ak:=zh (ad.o.trans (af.mono ad.o.size));obtain⟨a1,a2,a3,a4,a5,a6⟩:=q1.1.facts;obtain⟨b1,b2,b3,b4,b5,b6⟩:=q1.2.1.facts;obtain⟨c1,c2,c3,c4,c5,c6⟩:=q1.2.2.facts;have ax:=q1.2.2.lt;replace q1:=zh q1;clear af am ho
 go_wp2_with fail
 show Code.wp _ _ _ _ _
 go_quiet (fail)
 obtain⟨W,hW⟩:∃W,W=w1.drewN nq:=⟨_,rfl⟩;have qW:Hid (SumBoxes W w.heap.size g1 g2 a b c d):=by rw[hW];exact q1.o
 have ae:Hid (Below w.heap.size w W):=by rw[hW];exact Cs ak.o nq
 rw[<-hW];clear a1 a2 a3 a4 a5 a6 b1 b2 b3 b4 b5 b6 c1 c2 c3 c4 c5 c6 ax l0 l1 l2 hW q1 ak;obtain⟨a1,a2,a3,a4,a5,a6⟩:=qW.o.1.facts;obtain⟨b1,b2,b3,b4,b5,b6⟩:=qW.o.2.1.facts
 go_wp2_with fail
 refine(VZ (some (a*d)) (some (c*b)) _ (hE.o.below ae.o) (Ah (by have:=HS.o;omega)) (Ah (by have:=HS.o;omega))).mono ?_;rintro e w2 ⟨rfl,ag⟩;rw[hC.o,au.o];have q2:=qW.o.below ag;have h:=zh (ae.o.trans (ag.mono ae.o.size));clear a1 a2 a3 a4 a5 a6 b1 b2 b3 b4 b5 b6 ag;obtain⟨a1,a2,a3,a4,a5,a6⟩:=q2.1.facts;obtain⟨b1,b2,b3,b4,b5,b6⟩:=q2.2.1.facts;replace q2:=zh q2
 go_wp2_with fail
 refine(VY (some (a*d)) (some (c*b)) _ (hE.o.below h.o) (Ah (by have:=HS.o;omega)) (Ah (by have:=HS.o;omega))).mono ?_;rintro e w3 ⟨rfl,ah⟩;rw[al.o.1,al.o.2];have q3:=q2.o.below ah;have aa:=zh (h.o.trans (ah.mono h.o.size));clear a1 a2 a3 a4 a5 a6 b1 b2 b3 b4 b5 b6 ah;obtain⟨a1,a2,a3,a4,a5,a6⟩:=q3.1.facts;obtain⟨b1,b2,b3,b4,b5,b6⟩:=q3.2.1.facts;replace q3:=zh q3
 go_wp2_with fail
 refine(D4 g1 (a*d-c*b) (b*d) _ (hE.o.below aa.o) (by have:=HS.o;omega) (by have:=HS.o;omega) aj.o).mono ?_;rintro e w4 ⟨rfl,ai⟩;have q4:=q3.o.below ai;have ar:=zh (aa.o.trans (ai.mono aa.o.size));clear a1 a2 a3 a4 a5 a6 b1 b2 b3 b4 b5 b6 ai;obtain⟨c1,c2,c3,c4,c5,c6⟩:=q4.2.2.facts;replace q4:=zh q4;unfold qv;go_wp2;refine zf (v:=.tuple #[.agg #[.bool (decide ((mkRat (sg g1 (a*d-c*b)) (b*d)).num<0)),.string (T (some (mkRat (sg g1 (a*d-c*b)) (b*d)).num.natAbs)),.string (T (some (mkRat (sg g1 (a*d-c*b)) (b*d)).den))],.int .i64 0]) (by simp[results,Tryz.results73,go_sem,c1,c2,c3]) rfl ⟨rfl,?_⟩
 repeat refine zw ?_ (by simp only[];omega) _
 exact ar.o
theorem AB(W:World)(B b o:Nat)(x y z:Value)(h:b≠B):(((W.setCell ⟨B,0,none⟩ x).setCell ⟨B,1,none⟩ y).setCell ⟨B,2,none⟩ z).cell? ⟨b,o,none⟩=W.cell? ⟨b,o,none⟩ :=
 zR (w:=W) (a:=⟨b,o,none⟩) (((zg _ _ _ _ (by exact h)).trans (zg _ _ _ _ (by exact h))).trans (zg _ _ _ _ (by exact h)))
theorem GL(g1 g2:Bool)(a b c d:Nat)(w:World)(hE:Env w)(ha:a<Lim)(hb:b<Lim)(hc:c<Lim)(hd:d<Lim)(ad:a*c<Lim)(af:b*d<Lim)(h0:b*d≠0):
 Calls Tryz.prog 71 #[.agg #[.bool g1,.string (T (some a)),.string (T (some b))],.agg #[.bool g2,.string (T (some c)),.string (T (some d))]] w fun e w'=>e=.returned (.tuple #[qv (mkRat (sg (!(g1==g2)) (a*c)) (b*d)),.int .i64 0])/\Below w.heap.size w w':=by
 have HP:Hid (∀p∈[(a,c),(b,d)],p.1<Lim/\p.2<Lim/\p.1*p.2<Lim):=by
  intro p hp;simp only[xW,xI,vM]at hp
  rcases hp with rfl|rfl
  .exact⟨ha,hc,ad⟩
  exact⟨hb,hd,af⟩
 have ak:Hid (Ez ((DE w g1 g2 a b c d).alloc (.cells #[.string (T (some a)),.string (T (some c)),.string (T (some b)),.string (T (some d))] 141)) (w.heap.size+1+1+1) [(a,c),(b,d)]):=by
  have:=Vp (DE w g1 g2 a b c d) a c b d
  rwa [show (DE w g1 g2 a b c d).heap.size=w.heap.size+1+1+1 by simp]at this
 have ag:Hid (Below w.heap.size w ((DE w g1 g2 a b c d).alloc (.cells #[.string (T (some a)),.string (T (some c)),.string (T (some b)),.string (T (some d))] 141))):=(BX w g1 g2 a b c d).alloc (BX w g1 g2 a b c d).size _;have al:Hid (SumBoxes ((DE w g1 g2 a b c d).alloc (.cells #[.string (T (some a)),.string (T (some c)),.string (T (some b)),.string (T (some d))] 141)) w.heap.size g1 g2 a b c d):=(SumBoxes.new w g1 g2 a b c d).alloc _;replace hE:=zh hE;replace h0:=zh h0;replace ad:=zh ad;replace af:=zh af;clear ha hb hc hd;go_enter Tryz.func71,Tryz.ntmps71
 go_wp2_with fail
 refine(Dj _ (hE.o.below ag.o) (w.heap.size+1+1+1) 2 [(a,c),(b,d)] (by simp) (by simp) ak.o HP.o).mono ?_;rintro e w1 ⟨⟨v,rfl,ho⟩,ah⟩;have ai:Ey w1 v [a*c,b*d]:=FW ho (by simp);obtain⟨lg,lcap,rfl,aj,l0,l1⟩:=Vo ai
 have am:w.heap.size+1+1+1<lg:=by
  have h1:=(ho.lt lg rfl).1;simp at h1;omega
 have q1:=al.o.below ah;have aa:=zh (ag.o.trans (ah.mono ag.o.size));obtain⟨a1,a2,a3,a4,a5,a6⟩:=q1.1.facts;obtain⟨b1,b2,b3,b4,b5,b6⟩:=q1.2.1.facts;obtain⟨c1,c2,c3,c4,c5,c6⟩:=q1.2.2.facts;have an:=q1.2.2.lt;replace q1:=zh q1;clear ah ai ho
 go_wp2_with fail
 have hl:=fun W (h:Below w1.heap.size w1 W)=>D4 (!(g1==g2)) (a*c) (b*d) W (hE.o.below (aa.o.trans (h.mono aa.o.size))) ad.o af.o h0.o;simp only[qv]at hl;have q1d:Hid (SumBoxes w1.drew w.heap.size g1 g2 a b c d):=q1.o
 go_region_held3 (fun w'=>w'.cell? ⟨w.heap.size,0,none⟩=some (.bool g1)/\w'.cell? ⟨w.heap.size+1,0,none⟩=some (.bool g2)/\w'.cell? ⟨lg,0,none⟩=some (.string (T (some (a*c))))/\w'.cell? ⟨lg,1,none⟩=some (.string (T (some (b*d))))) (first|exact⟨a1,b1,l0,l1⟩|exact⟨k1,k2,k3,k4⟩|exact⟨(AB _ _ _ _ _ _ _ (by omega)).trans k1,(AB _ _ _ _ _ _ _ (by omega)).trans k2,(AB _ _ _ _ _ _ _ (by omega)).trans k3,(AB _ _ _ _ _ _ _ (by omega)).trans k4⟩|go_keep)
  (first|(go_at_call 119;refine(hl _ ?_).mono ?_;(exact(zI _ _).drew);rintro e w2 ⟨rfl,ae⟩;have q2:=q1d.o.below ae;obtain⟨c1',c2',c3',c4',c5',c6'⟩:=q2.2.2.facts;have k1:=q2.1.facts.1;have k2:=q2.2.1.facts.1;have k3:=(ae.cell (p:=⟨lg,0,none⟩) aj).trans l0;have k4:=(ae.cell (p:=⟨lg,1,none⟩) aj).trans l1))
 go_wp2;refine zf (v:=.tuple #[.agg #[.bool (decide ((mkRat (sg (!(g1==g2)) (a*c)) (b*d)).num<0)),.string (T (some (mkRat (sg (!(g1==g2)) (a*c)) (b*d)).num.natAbs)),.string (T (some (mkRat (sg (!(g1==g2)) (a*c)) (b*d)).den))],.int .i64 0]) (by simp[results,Tryz.results71,go_sem,c1',c2',c3']) rfl ⟨rfl,?_⟩
 repeat refine zw ?_ (by simp only[];omega) _
 exact(aa.o.drew).trans (ae.mono aa.o.size)
theorem TF(g:Bool)(n d:ByteArray)(w:World):
 Calls Tryz.prog 124 #[.agg #[.bool g,.string n,.string d]] w fun e w'=>e=.returned (.agg #[.bool (!g&&!(n.toList==[48])),.string n,.string d])/\Below w.heap.size w w':=by
 cases g with
 |true=>
  go_enter Tryz.func124,Tryz.ntmps124;go_wp2;refine zf (v:=.agg #[.bool false,.string n,.string d]) (by simp[results,Tryz.results124,go_sem]) rfl ⟨rfl,?_⟩
  repeat refine zw ?_ (by simp only[];omega) _
  exact((zI _ w).alloc (zA _) _).alloc (by simp) _
 |false=>
  cases hz:(n.toList==[48]) with
  |true=>
   go_enter Tryz.func124,Tryz.ntmps124;go_wp2;refine zf (v:=.agg #[.bool false,.string n,.string d]) (by simp[results,Tryz.results124,go_sem]) rfl ⟨rfl,?_⟩
   repeat refine zw ?_ (by simp only[];omega) _
   exact((zI _ w).alloc (zA _) _).alloc (by simp) _
  |false=>
   go_enter Tryz.func124,Tryz.ntmps124;go_wp2;refine zf (v:=.agg #[.bool true,.string n,.string d]) (by simp[results,Tryz.results124,go_sem]) rfl ⟨rfl,?_⟩
   repeat refine zw ?_ (by simp only[];omega) _
   exact((zI _ w).alloc (zA _) _).alloc (by simp) _
theorem UL(p q:Rat)(hp:ShortQ p)(hq:ShortQ q)(w:World)(hE:Env w):
 Calls Tryz.prog 73 #[qv p,qv q] w fun e w'=>e=.returned (.tuple #[qv (p+q),.int .i64 0])/\Below w.heap.size w w':=by
 by_cases hg:decide (p.num<0)=decide (q.num<0)
 .have h:=OV (decide (p.num<0)) p.num.natAbs p.den q.num.natAbs q.den w hE hp.1 hp.2 hq.1 hq.2 p.den_nz q.den_nz;rw[QW rfl hg rfl rfl,JS]at h;have e:qv q=.agg #[.bool (decide (p.num<0)),.string (T (some q.num.natAbs)),.string (T (some q.den))]:=by rw[hg];rfl
  rw[e];exact h
 have a:(decide (p.num<0)==decide (q.num<0))=false:=by rw[zM];exact hg
 rcases wP (p.num.natAbs*q.den) (q.num.natAbs*p.den) with hl|hl
 .have h:=OW (decide (p.num<0)) (decide (q.num<0)) p.num.natAbs p.den q.num.natAbs q.den w hE hp.1 hp.2 hq.1 hq.2 p.den_nz q.den_nz a hl;rw[QX rfl rfl rfl rfl hg hl,JS]at h;exact h
 have h:=OX (decide (p.num<0)) (decide (q.num<0)) p.num.natAbs p.den q.num.natAbs q.den w hE hp.1 hp.2 hq.1 hq.2 p.den_nz q.den_nz a hl;rw[QY rfl rfl rfl rfl hg hl,JS]at h;exact h
theorem OY(p q:Rat)(hp:ShortQ p)(hq:ShortQ q)(w:World)(hE:Env w):
 Calls Tryz.prog 71 #[qv p,qv q] w fun e w'=>e=.returned (.tuple #[qv (p*q),.int .i64 0])/\Below w.heap.size w w':=by
 have h1:=CI hp.1 hq.1;have h2:=CI hp.2 hq.2;have h3:=Ja;have h:=GL (decide (p.num<0)) (decide (q.num<0)) p.num.natAbs p.den q.num.natAbs q.den w hE (AI hp.1) (AI hp.2) (AI hq.1) (AI hq.2) (by omega) (by omega) (wA p.den_nz q.den_nz);have e:=Vi p q;rw[show (decide (p.num<0) != decide (q.num<0))=!(decide (p.num<0)==decide (q.num<0)) from rfl]at e;rw[e]at h;exact h
theorem Mu(p q:Rat)(hp:ShortQ p)(hq:ShortQ q)(h0:q.num≠0)(w:World)(hE:Env w):
 Calls Tryz.prog 71 #[qv p,.agg #[.bool (decide (q.num<0)),.string (T (some q.den)),.string (T (some q.num.natAbs))]] w fun e w'=>e=.returned (.tuple #[qv (p/q),.int .i64 0])/\Below w.heap.size w w':=by
 have h1:=CI hp.1 hq.2;have h2:=CI hp.2 hq.1;have h3:=Ja;have h:=GL (decide (p.num<0)) (decide (q.num<0)) p.num.natAbs p.den q.den q.num.natAbs w hE (AI hp.1) (AI hp.2) (AI hq.2) (AI hq.1) (by omega) (by omega) (wA p.den_nz (by omega));have e:=QZ p q;rw[show (decide (p.num<0) != decide (q.num<0))=!(decide (p.num<0)==decide (q.num<0)) from rfl]at e;rw[e]at h;exact h
theorem Vq(q:Rat):(.agg #[.bool (!decide (q.num<0)&&!((T (some q.num.natAbs)).toList==[48])),.string (T (some q.num.natAbs)),.string (T (some q.den))]:Value)=qv (-q):=by
 unfold qv;rw[AF];have e1:(-q).num=-q.num:=rfl;have e2:(-q).den=q.den:=rfl;rw[e1,e2,Int.natAbs_neg]
 have e3:(!decide (q.num<0)&&!decide (q.num.natAbs=0))=decide (-q.num<0):=by
  generalize q.num=z;rw[wO];simp;omega
 rw[e3]
theorem We(q:Rat)(w:World):
 Calls Tryz.prog 124 #[qv q] w fun e w'=>e=.returned (qv (-q))/\Below w.heap.size w w':=by
 refine(TF (decide (q.num<0)) (T (some q.num.natAbs)) (T (some q.den)) w).mono ?_;rintro e w' ⟨rfl,hb⟩;exact⟨by rw[Vq],hb⟩
theorem ShortQ.neg{q:Rat}(h:ShortQ q):ShortQ (-q):=⟨by show (-q.num).natAbs<L1;rw[Int.natAbs_neg];exact h.1,h.2⟩
abbrev TG(w:World)(g1 g2:Bool)(n1 d1 n2 d2:ByteArray):World :=
 ((w.alloc (.cells #[.bool g1,.string n1,.string d1] 34)).alloc (.cells #[.bool g2,.string n2,.string d2] 34)).alloc (.cells #[.bool false,.string ⟨#[]⟩,.string ⟨#[]⟩] 34)
def TwoBoxes(W:World)(B:Nat)(g1 g2:Bool)(n1 d1 n2 d2:ByteArray):Prop:=B3 W B g1 n1 d1/\B3 W (B+1) g2 n2 d2/\B3 W (B+1+1) false ⟨#[]⟩ ⟨#[]⟩
theorem TwoBoxes.new(w:World)(g1 g2:Bool)(n1 d1 n2 d2:ByteArray):TwoBoxes (TG w g1 g2 n1 d1 n2 d2) w.heap.size g1 g2 n1 d1 n2 d2:=by
 have e1:(w.alloc (.cells #[.bool g1,.string n1,.string d1] 34)).heap.size=w.heap.size+1:=by simp
 have e2:((w.alloc (.cells #[.bool g1,.string n1,.string d1] 34)).alloc (.cells #[.bool g2,.string n2,.string d2] 34)).heap.size=w.heap.size+1+1:=by simp
 refine⟨((B3.new w _ _ _).alloc _).alloc _,?_,?_⟩
 .have h:=B3.new (w.alloc (.cells #[.bool g1,.string n1,.string d1] 34)) g2 n2 d2;rw[e1]at h;exact h.alloc _
 have h:=B3.new ((w.alloc (.cells #[.bool g1,.string n1,.string d1] 34)).alloc (.cells #[.bool g2,.string n2,.string d2] 34)) false ⟨#[]⟩ ⟨#[]⟩;rw[e2]at h;exact h
theorem CK(w:World)(g1 g2:Bool)(n1 d1 n2 d2:ByteArray):Below w.heap.size w (TG w g1 g2 n1 d1 n2 d2) :=
 (((zI _ w).alloc (zA _) _).alloc (by simp) _).alloc (by simp;omega) _
theorem TwoBoxes.below{W W':World}{B:Nat}{g1 g2:Bool}{n1 d1 n2 d2:ByteArray}(h:TwoBoxes W B g1 g2 n1 d1 n2 d2)(hb:Below W.heap.size W W'):TwoBoxes W' B g1 g2 n1 d1 n2 d2:=⟨h.1.below hb,h.2.1.below hb,h.2.2.below hb⟩
theorem Vr(p q:Rat)(hp:ShortQ p)(hq:ShortQ q)(h0:q.num≠0)(w:World)(hE:Env w):
 Calls Tryz.prog 139 #[qv p,qv q] w fun e w'=>e=.returned (.tuple #[qv (p/q),.int .i64 0])/\Below w.heap.size w w':=by
 have hc:=fun W (h:Env W)=>Mu p q hp hq h0 W h;have ad:=zh (TwoBoxes.new w (decide (p.num<0)) (decide (q.num<0)) (T (some p.num.natAbs)) (T (some p.den)) (T (some q.num.natAbs)) (T (some q.den)));have a:=zh (CK w (decide (p.num<0)) (decide (q.num<0)) (T (some p.num.natAbs)) (T (some p.den)) (T (some q.num.natAbs)) (T (some q.den)));simp only[qv]at hc ⊢;replace hE:=zh hE;replace hc:=zh hc;clear hp hq h0;go_enter Tryz.func139,Tryz.ntmps139
 go_wp2_with fail
 refine(hc.o _ (hE.o.below a.o)).mono ?_;rintro e w1 ⟨rfl,d⟩;have q1:=ad.o.below d;have aa:=zh (a.o.trans (d.mono a.o.size));obtain⟨c1,c2,c3,c4,c5,c6⟩:=q1.2.2.facts;have ae:=q1.2.2.lt;clear d;replace q1:=zh q1;go_wp2;refine zf (v:=.tuple #[.agg #[.bool (decide ((p/q).num<0)),.string (T (some (p/q).num.natAbs)),.string (T (some (p/q).den))],.int .i64 0]) (by simp[results,Tryz.results139,go_sem,c1,c2,c3]) rfl ⟨rfl,?_⟩
 repeat refine zw ?_ (by simp only[];omega) _
 exact aa.o
theorem TwoBoxes.six{W:World}{B:Nat}{g1 g2:Bool}{n1 d1 n2 d2:ByteArray}(h:TwoBoxes W B g1 g2 n1 d1 n2 d2):
 W.cell? ⟨B,0,none⟩=some (.bool g1)/\W.cell? ⟨B,1,none⟩=some (.string n1)/\W.cell? ⟨B,2,none⟩=some (.string d1) /\
 W.cell? ⟨B+1,0,none⟩=some (.bool g2)/\W.cell? ⟨B+1,1,none⟩=some (.string n2)/\W.cell? ⟨B+1,2,none⟩=some (.string d2) :=
 ⟨h.1.facts.1,h.1.facts.2.1,h.1.facts.2.2.1,h.2.1.facts.1,h.2.1.facts.2.1,h.2.1.facts.2.2.1⟩
theorem TwoBoxes.six_set{W:World}{B:Nat}{g1 g2:Bool}{n1 d1 n2 d2:ByteArray}(h:TwoBoxes W B g1 g2 n1 d1 n2 d2)(x y z:Value):
 (((W.setCell ⟨B+1+1,0,none⟩ x).setCell ⟨B+1+1,1,none⟩ y).setCell ⟨B+1+1,2,none⟩ z).cell? ⟨B,0,none⟩=some (.bool g1)/\(((W.setCell ⟨B+1+1,0,none⟩ x).setCell ⟨B+1+1,1,none⟩ y).setCell ⟨B+1+1,2,none⟩ z).cell? ⟨B,1,none⟩=some (.string n1)/\(((W.setCell ⟨B+1+1,0,none⟩ x).setCell ⟨B+1+1,1,none⟩ y).setCell ⟨B+1+1,2,none⟩ z).cell? ⟨B,2,none⟩=some (.string d1) /\
 (((W.setCell ⟨B+1+1,0,none⟩ x).setCell ⟨B+1+1,1,none⟩ y).setCell ⟨B+1+1,2,none⟩ z).cell? ⟨B+1,0,none⟩=some (.bool g2)/\(((W.setCell ⟨B+1+1,0,none⟩ x).setCell ⟨B+1+1,1,none⟩ y).setCell ⟨B+1+1,2,none⟩ z).cell? ⟨B+1,1,none⟩=some (.string n2)/\(((W.setCell ⟨B+1+1,0,none⟩ x).setCell ⟨B+1+1,1,none⟩ y).setCell ⟨B+1+1,2,none⟩ z).cell? ⟨B+1,2,none⟩=some (.string d2):=by
 obtain⟨h1,h2,h3,h4,h5,h6⟩:=h.six;exact⟨(AB _ _ _ _ _ _ _ (by omega)).trans h1,(AB _ _ _ _ _ _ _ (by omega)).trans h2,(AB _ _ _ _ _ _ _ (by omega)).trans h3,(AB _ _ _ _ _ _ _ (by omega)).trans h4,(AB _ _ _ _ _ _ _ (by omega)).trans h5,(AB _ _ _ _ _ _ _ (by omega)).trans h6⟩
theorem Vs(g1 g2 g3:Bool)(n1 d1 n2 d2:ByteArray)(r:Bool)(n d:ByteArray)(E:Int)(w:World)(hE:Env w)
 (ho:∀W,Calls Tryz.prog 124 #[.agg #[.bool g2,.string n2,.string d2]] W fun e w'=>e=.returned (.agg #[.bool g3,.string n2,.string d2])/\Below W.heap.size W w')
 (hc:∀W,Env W->Calls Tryz.prog 73 #[.agg #[.bool g1,.string n1,.string d1],.agg #[.bool g3,.string n2,.string d2]] W fun e w'=>e=.returned (.tuple #[.agg #[.bool r,.string n,.string d],.int .i64 E])/\Below W.heap.size W w'):
 Calls Tryz.prog 123 #[.agg #[.bool g1,.string n1,.string d1],.agg #[.bool g2,.string n2,.string d2]] w fun e w'=>e=.returned (.tuple #[.agg #[.bool r,.string n,.string d],.int .i64 E])/\Below w.heap.size w w':=by
 have h:=zh (TwoBoxes.new w g1 g2 n1 d1 n2 d2);have ag:=zh (CK w g1 g2 n1 d1 n2 d2);obtain⟨W0,a⟩:∃W0,W0=TG w g1 g2 n1 d1 n2 d2:=⟨_,rfl⟩;rw[<-a]at h ag;simp only[TG]at a;have q0d:Hid (TwoBoxes W0.drew w.heap.size g1 g2 n1 d1 n2 d2):=h.o;have af:Hid (Below w.heap.size w W0.drew):=ag.o.drew;replace hE:=zh hE;replace a:=zh a;replace ho:=zh ho;replace hc:=zh hc;go_enter Tryz.func123,Tryz.ntmps123
 go_wp2_with fail
 rw[<-a.o];obtain⟨a1,a2,a3,b1,b2,b3⟩:=h.o.six
 go_region_held3 (fun w'=>w'.cell? ⟨w.heap.size,0,none⟩=some (.bool g1)/\w'.cell? ⟨w.heap.size,1,none⟩=some (.string n1)/\w'.cell? ⟨w.heap.size,2,none⟩=some (.string d1)/\w'.cell? ⟨w.heap.size+1,0,none⟩=some (.bool g2)/\w'.cell? ⟨w.heap.size+1,1,none⟩=some (.string n2)/\w'.cell? ⟨w.heap.size+1,2,none⟩=some (.string d2)) (first|(with_reducible exact h.o.six)|(with_reducible exact q0d.o.six)|(with_reducible exact q2.o.six)|(with_reducible exact q3.o.six)|(with_reducible exact q3.o.six_set _ _ _)|go_keep)
  (first
    |(go_at_call 124;refine(ho.o _).mono ?_;rintro e w2 ⟨rfl,ad⟩;have q2:=zh (q0d.o.below ad);have aa:=zh (af.o.trans (ad.mono af.o.size));clear ad)
    |(go_at_call 73;refine(hc.o _ ?_).mono ?_;(exact hE.o.below aa.o);rintro e w3 ⟨rfl,ae⟩;have q3:=zh (q2.o.below ae);obtain⟨c1,c2,c3,c4,c5,c6⟩:=q3.o.2.2.facts;have ah:=zh (aa.o.trans (ae.mono aa.o.size));clear ae))
 go_wp2;refine zf (v:=.tuple #[.agg #[.bool r,.string n,.string d],.int .i64 E]) (by simp[results,Tryz.results123,go_sem,c1,c2,c3]) rfl ⟨rfl,?_⟩
 repeat refine zw ?_ (by simp only[];omega) _
 exact ah.o
theorem Vt(p q:Rat)(hp:ShortQ p)(hq:ShortQ q)(w:World)(hE:Env w):
 Calls Tryz.prog 123 #[qv p,qv q] w fun e w'=>e=.returned (.tuple #[qv (p-q),.int .i64 0])/\Below w.heap.size w w':=by
 have hc:=fun W (h:Env W)=>UL p (-q) hp hq.neg W h;rw[<-Rat.sub_eq_add_neg]at hc;have ho:=fun W=>We q W
 have e:qv (-q)=.agg #[.bool (decide ((-q).num<0)),.string (T (some q.num.natAbs)),.string (T (some q.den))]:=by
  unfold qv;rw[show (-q).num.natAbs=q.num.natAbs from Int.natAbs_neg _];rfl
 rw[e]at hc ho;exact Vs _ _ _ _ _ _ _ _ _ _ _ w hE ho hc
def B2(W:World)(b:Nat)(z:Bool)(f:Nat):Prop:=W.heap[b]? = some (.cells #[.bool z,.func (.func f) #[] #[]] 98 (0,0))
theorem B2.lt{W:World}{b:Nat}{z:Bool}{f:Nat}(h:B2 W b z f):b<W.heap.size:=(Array.getElem?_eq_some_iff.1 h).1
theorem B2.facts{W:World}{b:Nat}{z:Bool}{f:Nat}(h:B2 W b z f):W.cell? ⟨b,0,none⟩=some (.bool z)/\W.cell? ⟨b,1,none⟩=some (.func (.func f) #[] #[]):=by
 unfold B2 at h;simp[World.cell?,h]
theorem B2.below{W W':World}{b:Nat}{z:Bool}{f:Nat}(h:B2 W b z f)(hb:Below W.heap.size W W'):B2 W' b z f:=(hb.block b h.lt).trans h
def RunBoxes(W:World)(B:Nat)(z:Bool)(f:Nat)(g1 g2:Bool)(n1 d1 n2 d2:ByteArray):Prop :=
 B2 W B z f/\B3 W (B+1) g1 n1 d1/\B3 W (B+2) g2 n2 d2/\B3 W (B+3) false ⟨#[]⟩ ⟨#[]⟩
theorem RunBoxes.new(w:World)(z:Bool)(f:Nat)(g1 g2:Bool)(n1 d1 n2 d2:ByteArray):
 RunBoxes ((((w.alloc (.cells #[.bool z,.func (.func f) #[] #[]] 98)).alloc (.cells #[.bool g1,.string n1,.string d1] 34)).alloc (.cells #[.bool g2,.string n2,.string d2] 34)).alloc (.cells #[.bool false,.string ⟨#[]⟩,.string ⟨#[]⟩] 34)) w.heap.size z f g1 g2 n1 d1 n2 d2:=by
 have e1:(w.alloc (.cells #[.bool z,.func (.func f) #[] #[]] 98)).heap.size=w.heap.size+1:=by simp
 have e2:((w.alloc (.cells #[.bool z,.func (.func f) #[] #[]] 98)).alloc (.cells #[.bool g1,.string n1,.string d1] 34)).heap.size=w.heap.size+2:=by simp
 have e3:(((w.alloc (.cells #[.bool z,.func (.func f) #[] #[]] 98)).alloc (.cells #[.bool g1,.string n1,.string d1] 34)).alloc (.cells #[.bool g2,.string n2,.string d2] 34)).heap.size=w.heap.size+3:=by simp
 refine⟨?_,?_,?_,?_⟩
 .unfold B2;rw[yj _ _ _ (by rw[e3];omega),yj _ _ _ (by rw[e2];omega),yj _ _ _ (by rw[e1];omega)];exact yM _ _
 .have h:=B3.new (w.alloc (.cells #[.bool z,.func (.func f) #[] #[]] 98)) g1 n1 d1;rw[e1]at h;exact(h.alloc _).alloc _
 .have h:=B3.new ((w.alloc (.cells #[.bool z,.func (.func f) #[] #[]] 98)).alloc (.cells #[.bool g1,.string n1,.string d1] 34)) g2 n2 d2;rw[e2]at h;exact h.alloc _
 have h:=B3.new (((w.alloc (.cells #[.bool z,.func (.func f) #[] #[]] 98)).alloc (.cells #[.bool g1,.string n1,.string d1] 34)).alloc (.cells #[.bool g2,.string n2,.string d2] 34)) false ⟨#[]⟩ ⟨#[]⟩;rw[e3]at h;exact h
theorem RunBoxes.below{W W':World}{B:Nat}{z:Bool}{f:Nat}{g1 g2:Bool}{n1 d1 n2 d2:ByteArray}(h:RunBoxes W B z f g1 g2 n1 d1 n2 d2)(hb:Below W.heap.size W W'):RunBoxes W' B z f g1 g2 n1 d1 n2 d2 :=
 ⟨h.1.below hb,h.2.1.below hb,h.2.2.1.below hb,h.2.2.2.below hb⟩
theorem Az(w:World)(o1 o2 o3 o4:Obj):Below w.heap.size w ((((w.alloc o1).alloc o2).alloc o3).alloc o4) :=
 ((((zI _ w).alloc (zA _) _).alloc (by simp) _).alloc (by simp;omega) _).alloc (by simp;omega) _
theorem Wf(z:Bool)(f:Nat)(g1 g2:Bool)(n1 d1 n2 d2:ByteArray)(w:World)(hE:Env w)(s1:n1.size<=140737488355328)(s2:d1.size<=140737488355328)(_s3:n2.size<=140737488355328)(_s4:d2.size<=140737488355328)(v1:Au g1 n1 d1=false):
 Calls Tryz.prog 72 #[.agg #[.bool z,.func (.func f) #[] #[]],.agg #[.bool g1,.string n1,.string d1],.agg #[.bool g2,.string n2,.string d2]] w fun e w'=>e=.returned (.tuple #[.agg #[.bool false,.string ⟨#[]⟩,.string ⟨#[]⟩],.int .i64 1])/\Below w.heap.size w w':=by
 have V1:=zh v1;clear v1;replace hE:=zh hE;go_enter Tryz.func72,Tryz.ntmps72
 go_wp2_with fail
 refine(AP g1 n1 d1 _ (hE.o.below (Az w _ _ _ _)) s1 s2).mono ?_;rintro e w1 ⟨rfl,a⟩;rw[V1.o];have q1:=(RunBoxes.new w z f g1 g2 n1 d1 n2 d2).below a;have d:=zh ((Az w _ _ _ _).trans (a.mono (Az w _ _ _ _).size));obtain⟨a1,a2⟩:=q1.1.facts;obtain⟨b1,b2,b3,b4,b5,b6⟩:=q1.2.1.facts;obtain⟨c1,c2,c3,c4,c5,c6⟩:=q1.2.2.1.facts;obtain⟨d1',d2',d3,d4,d5,d6⟩:=q1.2.2.2.facts;have h:=q1.2.2.2.lt;replace q1:=zh q1;clear a;go_wp2;refine zf (v:=.tuple #[.agg #[.bool false,.string ⟨#[]⟩,.string ⟨#[]⟩],.int .i64 1]) (by simp[results,Tryz.results72,go_sem,d1',d2',d3]) rfl ⟨rfl,?_⟩
 repeat refine zw ?_ (by simp only[];omega) _
 exact d.o
theorem Wg(z:Bool)(f:Nat)(g1 g2:Bool)(n1 d1 n2 d2:ByteArray)(w:World)(hE:Env w)(s1:n1.size<=140737488355328)(s2:d1.size<=140737488355328)(s3:n2.size<=140737488355328)(s4:d2.size<=140737488355328)(v1:Au g1 n1 d1=true)(v2:Au g2 n2 d2=false):
 Calls Tryz.prog 72 #[.agg #[.bool z,.func (.func f) #[] #[]],.agg #[.bool g1,.string n1,.string d1],.agg #[.bool g2,.string n2,.string d2]] w fun e w'=>e=.returned (.tuple #[.agg #[.bool false,.string ⟨#[]⟩,.string ⟨#[]⟩],.int .i64 1])/\Below w.heap.size w w':=by
 have V1:=zh v1;clear v1;have V2:=zh v2;clear v2;replace hE:=zh hE;go_enter Tryz.func72,Tryz.ntmps72
 go_wp2_with fail
 refine(AP g1 n1 d1 _ (hE.o.below (Az w _ _ _ _)) s1 s2).mono ?_;rintro e w1 ⟨rfl,d⟩;rw[V1.o];have q1:=(RunBoxes.new w z f g1 g2 n1 d1 n2 d2).below d;have a:=zh ((Az w _ _ _ _).trans (d.mono (Az w _ _ _ _).size));obtain⟨a1,a2⟩:=q1.1.facts;obtain⟨b1,b2,b3,b4,b5,b6⟩:=q1.2.1.facts;obtain⟨c1,c2,c3,c4,c5,c6⟩:=q1.2.2.1.facts;obtain⟨d1',d2',d3,d4,d5,d6⟩:=q1.2.2.2.facts;have ad:=q1.2.2.2.lt;replace q1:=zh q1;clear d
 go_wp2_with fail
 refine(AP g2 n2 d2 _ (hE.o.below a.o) s3 s4).mono ?_;rintro e w2 ⟨rfl,h⟩;rw[V2.o];have q2:=q1.o.below h;have aa:=zh (a.o.trans (h.mono a.o.size));clear a1 a2 b1 b2 b3 b4 b5 b6 c1 c2 c3 c4 c5 c6 d1' d2' d3 d4 d5 d6 h q1;obtain⟨a1,a2⟩:=q2.1.facts;obtain⟨b1,b2,b3,b4,b5,b6⟩:=q2.2.1.facts;obtain⟨c1,c2,c3,c4,c5,c6⟩:=q2.2.2.1.facts;obtain⟨d1',d2',d3,d4,d5,d6⟩:=q2.2.2.2.facts;have ae:=q2.2.2.2.lt;replace q2:=zh q2;go_wp2;refine zf (v:=.tuple #[.agg #[.bool false,.string ⟨#[]⟩,.string ⟨#[]⟩],.int .i64 1]) (by simp[results,Tryz.results72,go_sem,d1',d2',d3]) rfl ⟨rfl,?_⟩
 repeat refine zw ?_ (by simp only[];omega) _
 exact aa.o
theorem FX(z:Bool)(f:Nat)(g1 g2:Bool)(n1 d1 n2 d2:ByteArray)(w:World)(hE:Env w)(s1:n1.size<=140737488355328)(s2:d1.size<=140737488355328)(s3:n2.size<=140737488355328)(s4:d2.size<=140737488355328)(v1:Au g1 n1 d1=true)(v2:Au g2 n2 d2=true)(hz:z=false\/(z=true/\(n2.toList==[48])=false))(hl:¬(n1.size<=140/\d1.size<=140/\n2.size<=140/\d2.size<=140)):
 Calls Tryz.prog 72 #[.agg #[.bool z,.func (.func f) #[] #[]],.agg #[.bool g1,.string n1,.string d1],.agg #[.bool g2,.string n2,.string d2]] w fun e w'=>e=.returned (.tuple #[.agg #[.bool false,.string ⟨#[]⟩,.string ⟨#[]⟩],.int .i64 2])/\Below w.heap.size w w':=by
 have V1:=zh v1;clear v1;have V2:=zh v2;clear v2
 rcases hz with rfl|⟨rfl,h0⟩
 all_goals
 have hk:140<n1.size\/(n1.size<=140/\140<d1.size)\/(n1.size<=140/\d1.size<=140/\140<n2.size)\/(n1.size<=140/\d1.size<=140/\n2.size<=140/\140<d2.size):=by omega
 clear hl
 rcases hk with l1|⟨l1,l2⟩|⟨l1,l2,l3⟩|⟨l1,l2,l3,l4⟩
 all_goals
  replace hE:=zh hE;go_enter Tryz.func72,Tryz.ntmps72
  go_wp2_with fail
  refine(AP g1 n1 d1 _ (hE.o.below (Az w _ _ _ _)) s1 s2).mono ?_;rintro e w1 ⟨rfl,d⟩;rw[V1.o];have q1:=(RunBoxes.new w _ f g1 g2 n1 d1 n2 d2).below d;have a:=zh ((Az w _ _ _ _).trans (d.mono (Az w _ _ _ _).size));obtain⟨a1,a2⟩:=q1.1.facts;obtain⟨b1,b2,b3,b4,b5,b6⟩:=q1.2.1.facts;obtain⟨c1,c2,c3,c4,c5,c6⟩:=q1.2.2.1.facts;obtain⟨d1',d2',d3,d4,d5,d6⟩:=q1.2.2.2.facts;have ad:=q1.2.2.2.lt;replace q1:=zh q1;clear d
  go_wp2_with fail
  refine(AP g2 n2 d2 _ (hE.o.below a.o) s3 s4).mono ?_;rintro e w2 ⟨rfl,h⟩;rw[V2.o];have q2:=q1.o.below h;have aa:=zh (a.o.trans (h.mono a.o.size));clear a1 a2 b1 b2 b3 b4 b5 b6 c1 c2 c3 c4 c5 c6 d1' d2' d3 d4 d5 d6 h q1;obtain⟨a1,a2⟩:=q2.1.facts;obtain⟨b1,b2,b3,b4,b5,b6⟩:=q2.2.1.facts;obtain⟨c1,c2,c3,c4,c5,c6⟩:=q2.2.2.1.facts;obtain⟨d1',d2',d3,d4,d5,d6⟩:=q2.2.2.2.facts;have ae:=q2.2.2.2.lt;replace q2:=zh q2;go_wp2;refine zf (v:=.tuple #[.agg #[.bool false,.string ⟨#[]⟩,.string ⟨#[]⟩],.int .i64 2]) (by simp[results,Tryz.results72,go_sem,d1',d2',d3]) rfl ⟨rfl,?_⟩
  repeat refine zw ?_ (by simp only[];omega) _
  exact aa.o
theorem TH(g1 g2:Bool)(n1 d1 n2 d2:ByteArray)(w:World)(hE:Env w)(s1:n1.size<=140737488355328)(s2:d1.size<=140737488355328)(s3:n2.size<=140737488355328)(s4:d2.size<=140737488355328)(v1:Au g1 n1 d1=true)(v2:Au g2 n2 d2=true)(l1:n1.size<=140)(l2:d1.size<=140)(l3:n2.size<=140)(l4:d2.size<=140)(r:Bool)(n d:ByteArray)(E:Int)
 (hf:∀W,Env W->Calls Tryz.prog 73 #[.agg #[.bool g1,.string n1,.string d1],.agg #[.bool g2,.string n2,.string d2]] W fun e w'=>e=.returned (.tuple #[.agg #[.bool r,.string n,.string d],.int .i64 E])/\Below W.heap.size W w'):
 Calls Tryz.prog 72 #[.agg #[.bool false,.func (.func 73) #[] #[]],.agg #[.bool g1,.string n1,.string d1],.agg #[.bool g2,.string n2,.string d2]] w fun e w'=>e=.returned (.tuple #[.agg #[.bool r,.string n,.string d],.int .i64 E])/\Below w.heap.size w w':=by
 have V1:=zh v1;clear v1;have V2:=zh v2;clear v2;have HF:=zh hf;clear hf;replace hE:=zh hE;go_enter Tryz.func72,Tryz.ntmps72
 go_wp2_with fail
 refine(AP g1 n1 d1 _ (hE.o.below (Az w _ _ _ _)) s1 s2).mono ?_;rintro e w1 ⟨rfl,aa⟩;rw[V1.o];have q1:=(RunBoxes.new w _ _ g1 g2 n1 d1 n2 d2).below aa;have a:=zh ((Az w _ _ _ _).trans (aa.mono (Az w _ _ _ _).size));obtain⟨a1,a2⟩:=q1.1.facts;obtain⟨b1,b2,b3,b4,b5,b6⟩:=q1.2.1.facts;obtain⟨c1,c2,c3,c4,c5,c6⟩:=q1.2.2.1.facts;obtain⟨d1',d2',d3,d4,d5,d6⟩:=q1.2.2.2.facts;have ag:=q1.2.2.2.lt;replace q1:=zh q1;clear aa
 go_wp2_with fail
 refine(AP g2 n2 d2 _ (hE.o.below a.o) s3 s4).mono ?_;rintro e w2 ⟨rfl,ad⟩;rw[V2.o];have q2:=q1.o.below ad;have h:=zh (a.o.trans (ad.mono a.o.size));clear a1 a2 b1 b2 b3 b4 b5 b6 c1 c2 c3 c4 c5 c6 d1' d2' d3 d4 d5 d6 ad q1;obtain⟨a1,a2⟩:=q2.1.facts;obtain⟨b1,b2,b3,b4,b5,b6⟩:=q2.2.1.facts;obtain⟨c1,c2,c3,c4,c5,c6⟩:=q2.2.2.1.facts;obtain⟨d1',d2',d3,d4,d5,d6⟩:=q2.2.2.2.facts;have ah:=q2.2.2.2.lt;replace q2:=zh q2
 go_wp2_with fail
 refine(HF.o _ (hE.o.below h.o)).mono ?_;rintro e w3 ⟨rfl,ae⟩;have q3:=q2.o.below ae;have af:=zh (h.o.trans (ae.mono h.o.size));clear a1 a2 b1 b2 b3 b4 b5 b6 c1 c2 c3 c4 c5 c6 d1' d2' d3 d4 d5 d6 ae q2;obtain⟨d1',d2',d3,d4,d5,d6⟩:=q3.2.2.2.facts;have ai:=q3.2.2.2.lt;replace q3:=zh q3;go_wp2;refine zf (v:=.tuple #[.agg #[.bool r,.string n,.string d],.int .i64 E]) (by simp[results,Tryz.results72,go_sem,d1',d2',d3]) rfl ⟨rfl,?_⟩
 repeat refine zw ?_ (by simp only[];omega) _
 exact af.o
theorem TI(g1 g2:Bool)(n1 d1 n2 d2:ByteArray)(w:World)(hE:Env w)(s1:n1.size<=140737488355328)(s2:d1.size<=140737488355328)(s3:n2.size<=140737488355328)(s4:d2.size<=140737488355328)(v1:Au g1 n1 d1=true)(v2:Au g2 n2 d2=true)(l1:n1.size<=140)(l2:d1.size<=140)(l3:n2.size<=140)(l4:d2.size<=140)(r:Bool)(n d:ByteArray)(E:Int)
 (hf:∀W,Env W->Calls Tryz.prog 123 #[.agg #[.bool g1,.string n1,.string d1],.agg #[.bool g2,.string n2,.string d2]] W fun e w'=>e=.returned (.tuple #[.agg #[.bool r,.string n,.string d],.int .i64 E])/\Below W.heap.size W w'):
 Calls Tryz.prog 72 #[.agg #[.bool false,.func (.func 123) #[] #[]],.agg #[.bool g1,.string n1,.string d1],.agg #[.bool g2,.string n2,.string d2]] w fun e w'=>e=.returned (.tuple #[.agg #[.bool r,.string n,.string d],.int .i64 E])/\Below w.heap.size w w':=by
 have V1:=zh v1;clear v1;have V2:=zh v2;clear v2;have HF:=zh hf;clear hf;replace hE:=zh hE;go_enter Tryz.func72,Tryz.ntmps72
 go_wp2_with fail
 refine(AP g1 n1 d1 _ (hE.o.below (Az w _ _ _ _)) s1 s2).mono ?_;rintro e w1 ⟨rfl,aa⟩;rw[V1.o];have q1:=(RunBoxes.new w _ _ g1 g2 n1 d1 n2 d2).below aa;have a:=zh ((Az w _ _ _ _).trans (aa.mono (Az w _ _ _ _).size));obtain⟨a1,a2⟩:=q1.1.facts;obtain⟨b1,b2,b3,b4,b5,b6⟩:=q1.2.1.facts;obtain⟨c1,c2,c3,c4,c5,c6⟩:=q1.2.2.1.facts;obtain⟨d1',d2',d3,d4,d5,d6⟩:=q1.2.2.2.facts;have ag:=q1.2.2.2.lt;replace q1:=zh q1;clear aa
 go_wp2_with fail
 refine(AP g2 n2 d2 _ (hE.o.below a.o) s3 s4).mono ?_;rintro e w2 ⟨rfl,ad⟩;rw[V2.o];have q2:=q1.o.below ad;have h:=zh (a.o.trans (ad.mono a.o.size));clear a1 a2 b1 b2 b3 b4 b5 b6 c1 c2 c3 c4 c5 c6 d1' d2' d3 d4 d5 d6 ad q1;obtain⟨a1,a2⟩:=q2.1.facts;obtain⟨b1,b2,b3,b4,b5,b6⟩:=q2.2.1.facts;obtain⟨c1,c2,c3,c4,c5,c6⟩:=q2.2.2.1.facts;obtain⟨d1',d2',d3,d4,d5,d6⟩:=q2.2.2.2.facts;have ah:=q2.2.2.2.lt;replace q2:=zh q2
 go_wp2_with fail
 refine(HF.o _ (hE.o.below h.o)).mono ?_;rintro e w3 ⟨rfl,ae⟩;have q3:=q2.o.below ae;have af:=zh (h.o.trans (ae.mono h.o.size));clear a1 a2 b1 b2 b3 b4 b5 b6 c1 c2 c3 c4 c5 c6 d1' d2' d3 d4 d5 d6 ae q2;obtain⟨d1',d2',d3,d4,d5,d6⟩:=q3.2.2.2.facts;have ai:=q3.2.2.2.lt;replace q3:=zh q3;go_wp2;refine zf (v:=.tuple #[.agg #[.bool r,.string n,.string d],.int .i64 E]) (by simp[results,Tryz.results72,go_sem,d1',d2',d3]) rfl ⟨rfl,?_⟩
 repeat refine zw ?_ (by simp only[];omega) _
 exact af.o
theorem KX(g1 g2:Bool)(n1 d1 n2 d2:ByteArray)(w:World)(hE:Env w)(s1:n1.size<=140737488355328)(s2:d1.size<=140737488355328)(s3:n2.size<=140737488355328)(s4:d2.size<=140737488355328)(v1:Au g1 n1 d1=true)(v2:Au g2 n2 d2=true)(l1:n1.size<=140)(l2:d1.size<=140)(l3:n2.size<=140)(l4:d2.size<=140)(r:Bool)(n d:ByteArray)(E:Int)
 (hf:∀W,Env W->Calls Tryz.prog 71 #[.agg #[.bool g1,.string n1,.string d1],.agg #[.bool g2,.string n2,.string d2]] W fun e w'=>e=.returned (.tuple #[.agg #[.bool r,.string n,.string d],.int .i64 E])/\Below W.heap.size W w'):
 Calls Tryz.prog 72 #[.agg #[.bool false,.func (.func 71) #[] #[]],.agg #[.bool g1,.string n1,.string d1],.agg #[.bool g2,.string n2,.string d2]] w fun e w'=>e=.returned (.tuple #[.agg #[.bool r,.string n,.string d],.int .i64 E])/\Below w.heap.size w w':=by
 have V1:=zh v1;clear v1;have V2:=zh v2;clear v2;have HF:=zh hf;clear hf;replace hE:=zh hE;go_enter Tryz.func72,Tryz.ntmps72
 go_wp2_with fail
 refine(AP g1 n1 d1 _ (hE.o.below (Az w _ _ _ _)) s1 s2).mono ?_;rintro e w1 ⟨rfl,aa⟩;rw[V1.o];have q1:=(RunBoxes.new w _ _ g1 g2 n1 d1 n2 d2).below aa;have a:=zh ((Az w _ _ _ _).trans (aa.mono (Az w _ _ _ _).size));obtain⟨a1,a2⟩:=q1.1.facts;obtain⟨b1,b2,b3,b4,b5,b6⟩:=q1.2.1.facts;obtain⟨c1,c2,c3,c4,c5,c6⟩:=q1.2.2.1.facts;obtain⟨d1',d2',d3,d4,d5,d6⟩:=q1.2.2.2.facts;have ag:=q1.2.2.2.lt;replace q1:=zh q1;clear aa
 go_wp2_with fail
 refine(AP g2 n2 d2 _ (hE.o.below a.o) s3 s4).mono ?_;rintro e w2 ⟨rfl,ad⟩;rw[V2.o];have q2:=q1.o.below ad;have h:=zh (a.o.trans (ad.mono a.o.size));clear a1 a2 b1 b2 b3 b4 b5 b6 c1 c2 c3 c4 c5 c6 d1' d2' d3 d4 d5 d6 ad q1;obtain⟨a1,a2⟩:=q2.1.facts;obtain⟨b1,b2,b3,b4,b5,b6⟩:=q2.2.1.facts;obtain⟨c1,c2,c3,c4,c5,c6⟩:=q2.2.2.1.facts;obtain⟨d1',d2',d3,d4,d5,d6⟩:=q2.2.2.2.facts;have ah:=q2.2.2.2.lt;replace q2:=zh q2
 go_wp2_with fail
 refine(HF.o _ (hE.o.below h.o)).mono ?_;rintro e w3 ⟨rfl,ae⟩;have q3:=q2.o.below ae;have af:=zh (h.o.trans (ae.mono h.o.size));clear a1 a2 b1 b2 b3 b4 b5 b6 c1 c2 c3 c4 c5 c6 d1' d2' d3 d4 d5 d6 ae q2;obtain⟨d1',d2',d3,d4,d5,d6⟩:=q3.2.2.2.facts;have ai:=q3.2.2.2.lt;replace q3:=zh q3;go_wp2;refine zf (v:=.tuple #[.agg #[.bool r,.string n,.string d],.int .i64 E]) (by simp[results,Tryz.results72,go_sem,d1',d2',d3]) rfl ⟨rfl,?_⟩
 repeat refine zw ?_ (by simp only[];omega) _
 exact af.o
theorem TJ(g1 g2:Bool)(n1 d1 n2 d2:ByteArray)(w:World)(hE:Env w)(s1:n1.size<=140737488355328)(s2:d1.size<=140737488355328)(s3:n2.size<=140737488355328)(s4:d2.size<=140737488355328)(v1:Au g1 n1 d1=true)(v2:Au g2 n2 d2=true)(h0:(n2.toList==[48])=false)(l1:n1.size<=140)(l2:d1.size<=140)(l3:n2.size<=140)(l4:d2.size<=140)(r:Bool)(n d:ByteArray)(E:Int)
 (hf:∀W,Env W->Calls Tryz.prog 139 #[.agg #[.bool g1,.string n1,.string d1],.agg #[.bool g2,.string n2,.string d2]] W fun e w'=>e=.returned (.tuple #[.agg #[.bool r,.string n,.string d],.int .i64 E])/\Below W.heap.size W w'):
 Calls Tryz.prog 72 #[.agg #[.bool true,.func (.func 139) #[] #[]],.agg #[.bool g1,.string n1,.string d1],.agg #[.bool g2,.string n2,.string d2]] w fun e w'=>e=.returned (.tuple #[.agg #[.bool r,.string n,.string d],.int .i64 E])/\Below w.heap.size w w':=by
 have V1:=zh v1;clear v1;have V2:=zh v2;clear v2;have HF:=zh hf;clear hf;replace hE:=zh hE;go_enter Tryz.func72,Tryz.ntmps72
 go_wp2_with fail
 refine(AP g1 n1 d1 _ (hE.o.below (Az w _ _ _ _)) s1 s2).mono ?_;rintro e w1 ⟨rfl,aa⟩;rw[V1.o];have q1:=(RunBoxes.new w _ _ g1 g2 n1 d1 n2 d2).below aa;have a:=zh ((Az w _ _ _ _).trans (aa.mono (Az w _ _ _ _).size));obtain⟨a1,a2⟩:=q1.1.facts;obtain⟨b1,b2,b3,b4,b5,b6⟩:=q1.2.1.facts;obtain⟨c1,c2,c3,c4,c5,c6⟩:=q1.2.2.1.facts;obtain⟨d1',d2',d3,d4,d5,d6⟩:=q1.2.2.2.facts;have ag:=q1.2.2.2.lt;replace q1:=zh q1;clear aa
 go_wp2_with fail
 refine(AP g2 n2 d2 _ (hE.o.below a.o) s3 s4).mono ?_;rintro e w2 ⟨rfl,ad⟩;rw[V2.o];have q2:=q1.o.below ad;have h:=zh (a.o.trans (ad.mono a.o.size));clear a1 a2 b1 b2 b3 b4 b5 b6 c1 c2 c3 c4 c5 c6 d1' d2' d3 d4 d5 d6 ad q1;obtain⟨a1,a2⟩:=q2.1.facts;obtain⟨b1,b2,b3,b4,b5,b6⟩:=q2.2.1.facts;obtain⟨c1,c2,c3,c4,c5,c6⟩:=q2.2.2.1.facts;obtain⟨d1',d2',d3,d4,d5,d6⟩:=q2.2.2.2.facts;have ah:=q2.2.2.2.lt;replace q2:=zh q2
 go_wp2_with fail
 refine(HF.o _ (hE.o.below h.o)).mono ?_;rintro e w3 ⟨rfl,ae⟩;have q3:=q2.o.below ae;have af:=zh (h.o.trans (ae.mono h.o.size));clear a1 a2 b1 b2 b3 b4 b5 b6 c1 c2 c3 c4 c5 c6 d1' d2' d3 d4 d5 d6 ae q2;obtain⟨d1',d2',d3,d4,d5,d6⟩:=q3.2.2.2.facts;have ai:=q3.2.2.2.lt;replace q3:=zh q3;go_wp2;refine zf (v:=.tuple #[.agg #[.bool r,.string n,.string d],.int .i64 E]) (by simp[results,Tryz.results72,go_sem,d1',d2',d3]) rfl ⟨rfl,?_⟩
 repeat refine zw ?_ (by simp only[];omega) _
 exact af.o
theorem AU{g:Bool}{n d:ByteArray}(h:Au g n d=true):n.size<=300/\d.size<=300:=by
 unfold Au at h;simp only[yI]at h;exact⟨AV h.1,AV h.2.1⟩
theorem Bw{q:Rat}(h:ShortQ q):(T (some q.num.natAbs)).size<=140/\(T (some q.den)).size<=140:=⟨(Hr _).2 h.1,(Hr _).2 h.2⟩
theorem AW{q:Rat}(h1:(T (some q.num.natAbs)).size<=140)(h2:(T (some q.den)).size<=140):ShortQ q:=⟨(Hr _).1 h1,(Hr _).1 h2⟩
theorem CU{q:Rat}(h:q≠0):q.num≠0:=fun e=>h (Rat.num_eq_zero.1 e)
theorem UM(g1 g2:Bool)(n1 d1 n2 d2:ByteArray)(r:Bool)(n d:ByteArray)(E:Int)(w:World)(hE:Env w)
 (hr:∀W,Env W->Calls Tryz.prog 72 #[.agg #[.bool false,.func (.func 73) #[] #[]],.agg #[.bool g1,.string n1,.string d1],.agg #[.bool g2,.string n2,.string d2]] W fun e w'=>e=.returned (.tuple #[.agg #[.bool r,.string n,.string d],.int .i64 E])/\Below W.heap.size W w'):
 Calls Tryz.prog 29 #[.agg #[.bool g1,.string n1,.string d1],.agg #[.bool g2,.string n2,.string d2]] w fun e w'=>e=.returned (.tuple #[.agg #[.bool r,.string n,.string d],.int .i64 E])/\Below w.heap.size w w':=by
 have ad:=zh (TwoBoxes.new w g1 g2 n1 d1 n2 d2);have a:=zh (CK w g1 g2 n1 d1 n2 d2);replace hE:=zh hE;replace hr:=zh hr;go_enter Tryz.func29,Tryz.ntmps29
 go_wp2_with fail
 refine(hr.o _ (hE.o.below a.o)).mono ?_;rintro e w1 ⟨rfl,h⟩;have q1:=ad.o.below h;have aa:=zh (a.o.trans (h.mono a.o.size));obtain⟨c1,c2,c3,c4,c5,c6⟩:=q1.2.2.facts;have ae:=q1.2.2.lt;clear h;replace q1:=zh q1;go_wp2;refine zf (v:=.tuple #[.agg #[.bool r,.string n,.string d],.int .i64 E]) (by simp[results,Tryz.results29,go_sem,c1,c2,c3]) rfl ⟨rfl,?_⟩
 repeat refine zw ?_ (by simp only[];omega) _
 exact aa.o
theorem Jc(p q:Rat)(hp:ShortQ p)(hq:ShortQ q)(w:World)(hE:Env w):
 Calls Tryz.prog 29 #[qv p,qv q] w fun e w'=>e=.returned (.tuple #[qv (p+q),.int .i64 0])/\Below w.heap.size w w':=by
 have l1:=Bw hp;have l2:=Bw hq;refine UM _ _ _ _ _ _ _ _ _ _ w hE fun W hW=>?_;exact TH _ _ _ _ _ _ W hW (by omega) (by omega) (by omega) (by omega) (AQ hp.ok) (AQ hq.ok) l1.1 l1.2 l2.1 l2.2 _ _ _ _ fun W2 h2=>UL p q hp hq W2 h2
theorem Wh(p q:Rat)(hp:OkQ p)(hq:OkQ q)(hl:¬(ShortQ p/\ShortQ q))(w:World)(hE:Env w):
 Calls Tryz.prog 29 #[qv p,qv q] w fun e w'=>e=.returned (.tuple #[zv,.int .i64 2])/\Below w.heap.size w w':=by
 have v1:=AQ hp;have v2:=AQ hq;have l1:=AU v1;have l2:=AU v2;refine UM _ _ _ _ _ _ false ⟨#[]⟩ ⟨#[]⟩ 2 w hE fun W hW=>?_;exact FX false 73 _ _ _ _ _ _ W hW (by omega) (by omega) (by omega) (by omega) v1 v2 (.inl rfl) fun h=>hl ⟨AW h.1 h.2.1,AW h.2.2.1 h.2.2.2⟩
theorem UN(g1 g2:Bool)(n1 d1 n2 d2:ByteArray)(r:Bool)(n d:ByteArray)(E:Int)(w:World)(hE:Env w)
 (hr:∀W,Env W->Calls Tryz.prog 72 #[.agg #[.bool false,.func (.func 123) #[] #[]],.agg #[.bool g1,.string n1,.string d1],.agg #[.bool g2,.string n2,.string d2]] W fun e w'=>e=.returned (.tuple #[.agg #[.bool r,.string n,.string d],.int .i64 E])/\Below W.heap.size W w'):
 Calls Tryz.prog 75 #[.agg #[.bool g1,.string n1,.string d1],.agg #[.bool g2,.string n2,.string d2]] w fun e w'=>e=.returned (.tuple #[.agg #[.bool r,.string n,.string d],.int .i64 E])/\Below w.heap.size w w':=by
 have ad:=zh (TwoBoxes.new w g1 g2 n1 d1 n2 d2);have a:=zh (CK w g1 g2 n1 d1 n2 d2);replace hE:=zh hE;replace hr:=zh hr;go_enter Tryz.func75,Tryz.ntmps75
 go_wp2_with fail
 refine(hr.o _ (hE.o.below a.o)).mono ?_;rintro e w1 ⟨rfl,h⟩;have q1:=ad.o.below h;have aa:=zh (a.o.trans (h.mono a.o.size));obtain⟨c1,c2,c3,c4,c5,c6⟩:=q1.2.2.facts;have ae:=q1.2.2.lt;clear h;replace q1:=zh q1;go_wp2;refine zf (v:=.tuple #[.agg #[.bool r,.string n,.string d],.int .i64 E]) (by simp[results,Tryz.results75,go_sem,c1,c2,c3]) rfl ⟨rfl,?_⟩
 repeat refine zw ?_ (by simp only[];omega) _
 exact aa.o
theorem Jd(p q:Rat)(hp:ShortQ p)(hq:ShortQ q)(w:World)(hE:Env w):
 Calls Tryz.prog 75 #[qv p,qv q] w fun e w'=>e=.returned (.tuple #[qv (p-q),.int .i64 0])/\Below w.heap.size w w':=by
 have l1:=Bw hp;have l2:=Bw hq;refine UN _ _ _ _ _ _ _ _ _ _ w hE fun W hW=>?_;exact TI _ _ _ _ _ _ W hW (by omega) (by omega) (by omega) (by omega) (AQ hp.ok) (AQ hq.ok) l1.1 l1.2 l2.1 l2.2 _ _ _ _ fun W2 h2=>Vt p q hp hq W2 h2
theorem Rg(p q:Rat)(hp:OkQ p)(hq:OkQ q)(hl:¬(ShortQ p/\ShortQ q))(w:World)(hE:Env w):
 Calls Tryz.prog 75 #[qv p,qv q] w fun e w'=>e=.returned (.tuple #[zv,.int .i64 2])/\Below w.heap.size w w':=by
 have v1:=AQ hp;have v2:=AQ hq;have l1:=AU v1;have l2:=AU v2;refine UN _ _ _ _ _ _ false ⟨#[]⟩ ⟨#[]⟩ 2 w hE fun W hW=>?_;exact FX false 123 _ _ _ _ _ _ W hW (by omega) (by omega) (by omega) (by omega) v1 v2 (.inl rfl) fun h=>hl ⟨AW h.1 h.2.1,AW h.2.2.1 h.2.2.2⟩
theorem UO(g1 g2:Bool)(n1 d1 n2 d2:ByteArray)(r:Bool)(n d:ByteArray)(E:Int)(w:World)(hE:Env w)
 (hr:∀W,Env W->Calls Tryz.prog 72 #[.agg #[.bool false,.func (.func 71) #[] #[]],.agg #[.bool g1,.string n1,.string d1],.agg #[.bool g2,.string n2,.string d2]] W fun e w'=>e=.returned (.tuple #[.agg #[.bool r,.string n,.string d],.int .i64 E])/\Below W.heap.size W w'):
 Calls Tryz.prog 28 #[.agg #[.bool g1,.string n1,.string d1],.agg #[.bool g2,.string n2,.string d2]] w fun e w'=>e=.returned (.tuple #[.agg #[.bool r,.string n,.string d],.int .i64 E])/\Below w.heap.size w w':=by
 have ad:=zh (TwoBoxes.new w g1 g2 n1 d1 n2 d2);have a:=zh (CK w g1 g2 n1 d1 n2 d2);replace hE:=zh hE;replace hr:=zh hr;go_enter Tryz.func28,Tryz.ntmps28
 go_wp2_with fail
 refine(hr.o _ (hE.o.below a.o)).mono ?_;rintro e w1 ⟨rfl,h⟩;have q1:=ad.o.below h;have aa:=zh (a.o.trans (h.mono a.o.size));obtain⟨c1,c2,c3,c4,c5,c6⟩:=q1.2.2.facts;have ae:=q1.2.2.lt;clear h;replace q1:=zh q1;go_wp2;refine zf (v:=.tuple #[.agg #[.bool r,.string n,.string d],.int .i64 E]) (by simp[results,Tryz.results28,go_sem,c1,c2,c3]) rfl ⟨rfl,?_⟩
 repeat refine zw ?_ (by simp only[];omega) _
 exact aa.o
theorem Fj(p q:Rat)(hp:ShortQ p)(hq:ShortQ q)(w:World)(hE:Env w):
 Calls Tryz.prog 28 #[qv p,qv q] w fun e w'=>e=.returned (.tuple #[qv (p*q),.int .i64 0])/\Below w.heap.size w w':=by
 have l1:=Bw hp;have l2:=Bw hq;refine UO _ _ _ _ _ _ _ _ _ _ w hE fun W hW=>?_;exact KX _ _ _ _ _ _ W hW (by omega) (by omega) (by omega) (by omega) (AQ hp.ok) (AQ hq.ok) l1.1 l1.2 l2.1 l2.2 _ _ _ _ fun W2 h2=>OY p q hp hq W2 h2
theorem Rh(p q:Rat)(hp:OkQ p)(hq:OkQ q)(hl:¬(ShortQ p/\ShortQ q))(w:World)(hE:Env w):
 Calls Tryz.prog 28 #[qv p,qv q] w fun e w'=>e=.returned (.tuple #[zv,.int .i64 2])/\Below w.heap.size w w':=by
 have v1:=AQ hp;have v2:=AQ hq;have l1:=AU v1;have l2:=AU v2;refine UO _ _ _ _ _ _ false ⟨#[]⟩ ⟨#[]⟩ 2 w hE fun W hW=>?_;exact FX false 71 _ _ _ _ _ _ W hW (by omega) (by omega) (by omega) (by omega) v1 v2 (.inl rfl) fun h=>hl ⟨AW h.1 h.2.1,AW h.2.2.1 h.2.2.2⟩
theorem UP(g1 g2:Bool)(n1 d1 n2 d2:ByteArray)(r:Bool)(n d:ByteArray)(E:Int)(w:World)(hE:Env w)
 (hr:∀W,Env W->Calls Tryz.prog 72 #[.agg #[.bool true,.func (.func 139) #[] #[]],.agg #[.bool g1,.string n1,.string d1],.agg #[.bool g2,.string n2,.string d2]] W fun e w'=>e=.returned (.tuple #[.agg #[.bool r,.string n,.string d],.int .i64 E])/\Below W.heap.size W w'):
 Calls Tryz.prog 94 #[.agg #[.bool g1,.string n1,.string d1],.agg #[.bool g2,.string n2,.string d2]] w fun e w'=>e=.returned (.tuple #[.agg #[.bool r,.string n,.string d],.int .i64 E])/\Below w.heap.size w w':=by
 have ad:=zh (TwoBoxes.new w g1 g2 n1 d1 n2 d2);have a:=zh (CK w g1 g2 n1 d1 n2 d2);replace hE:=zh hE;replace hr:=zh hr;go_enter Tryz.func94,Tryz.ntmps94
 go_wp2_with fail
 refine(hr.o _ (hE.o.below a.o)).mono ?_;rintro e w1 ⟨rfl,h⟩;have q1:=ad.o.below h;have aa:=zh (a.o.trans (h.mono a.o.size));obtain⟨c1,c2,c3,c4,c5,c6⟩:=q1.2.2.facts;have ae:=q1.2.2.lt;clear h;replace q1:=zh q1;go_wp2;refine zf (v:=.tuple #[.agg #[.bool r,.string n,.string d],.int .i64 E]) (by simp[results,Tryz.results94,go_sem,c1,c2,c3]) rfl ⟨rfl,?_⟩
 repeat refine zw ?_ (by simp only[];omega) _
 exact aa.o
theorem OZ(p q:Rat)(hp:ShortQ p)(hq:ShortQ q)(h0:q≠0)(w:World)(hE:Env w):
 Calls Tryz.prog 94 #[qv p,qv q] w fun e w'=>e=.returned (.tuple #[qv (p/q),.int .i64 0])/\Below w.heap.size w w':=by
 have l1:=Bw hp;have l2:=Bw hq;have hn:=CU h0;have hz:=AF q.num.natAbs;rw[zD (by omega)]at hz;refine UP _ _ _ _ _ _ _ _ _ _ w hE fun W hW=>?_;exact TJ _ _ _ _ _ _ W hW (by omega) (by omega) (by omega) (by omega) (AQ hp.ok) (AQ hq.ok) hz l1.1 l1.2 l2.1 l2.2 _ _ _ _ fun W2 h2=>Vr p q hp hq hn W2 h2
theorem Ri(p q:Rat)(hp:OkQ p)(hq:OkQ q)(h0:q≠0)(hl:¬(ShortQ p/\ShortQ q))(w:World)(hE:Env w):
 Calls Tryz.prog 94 #[qv p,qv q] w fun e w'=>e=.returned (.tuple #[zv,.int .i64 2])/\Below w.heap.size w w':=by
 have v1:=AQ hp;have v2:=AQ hq;have l1:=AU v1;have l2:=AU v2;have hn:=CU h0;have hz:=AF q.num.natAbs;rw[zD (by omega)]at hz;refine UP _ _ _ _ _ _ false ⟨#[]⟩ ⟨#[]⟩ 2 w hE fun W hW=>?_;exact FX true 139 _ _ _ _ _ _ W hW (by omega) (by omega) (by omega) (by omega) v1 v2 (.inr ⟨rfl,hz⟩) fun h=>hl ⟨AW h.1 h.2.1,AW h.2.2.1 h.2.2.2⟩
def Rj(p q:Rat):Int:=if p<q then -1 else if p=q then 0 else 1
theorem TK(q:Rat):q.num<0<->q<0:=by
 rw[Rat.lt_iff]
 show _<->q.num*1<0*_
 omega
theorem GM(p q:Rat):(p-q).num<0<->p<q:=by
 rw[TK,Rat.sub_lt_iff,Rat.zero_add]
theorem FY(p q:Rat):p-q=0<->p=q:=by
 constructor
 .intro h;have e:p-q+q=0+q:=congrArg (·+q) h
  rwa [Rat.sub_add_cancel,Rat.zero_add]at e
 intro h;rw[h];exact Rat.sub_self
theorem Pa(g1 g2:Bool)(n1 d1 n2 d2:ByteArray)(r:Bool)(n d:ByteArray)(E c f:Int)(w:World)(hE:Env w)
 (hs:∀W,Env W->Calls Tryz.prog 75 #[.agg #[.bool g1,.string n1,.string d1],.agg #[.bool g2,.string n2,.string d2]] W fun e w'=>e=.returned (.tuple #[.agg #[.bool r,.string n,.string d],.int .i64 E])/\Below W.heap.size W w')
 (hk:(E≠0/\c=0/\f=E)\/(E=0/\r=true/\c=-1/\f=0)\/(E=0/\r=false/\(n.toList==[48])=true/\c=0/\f=0)\/(E=0/\r=false/\(n.toList==[48])=false/\c=1/\f=0)):
 Calls Tryz.prog 32 #[.agg #[.bool g1,.string n1,.string d1],.agg #[.bool g2,.string n2,.string d2]] w fun e w'=>e=.returned (.tuple #[.int .i64 c,.int .i64 f])/\Below w.heap.size w w':=by
 have a:Hid (Below w.heap.size w ((w.alloc (.cells #[.bool g1,.string n1,.string d1] 34)).alloc (.cells #[.bool g2,.string n2,.string d2] 34))):=((zI _ w).alloc (zA _) _).alloc (by simp) _;replace hE:=zh hE;replace hs:=zh hs
 rcases hk with⟨h1,rfl,rfl⟩|⟨rfl,rfl,rfl,rfl⟩|⟨rfl,rfl,h1,rfl,rfl⟩|⟨rfl,rfl,h1,rfl,rfl⟩
 rotate_left
 all_goals
  go_enter Tryz.func32,Tryz.ntmps32
  go_wp2_with fail
  refine(hs.o _ (hE.o.below a.o)).mono ?_;rintro e w1 ⟨rfl,aa⟩;have h:=zh (a.o.trans (aa.mono a.o.size));clear aa;go_wp2;go_ret2;exact⟨rfl,h.o.alloc h.o.size _⟩
theorem Fz(p q:Rat)(hp:ShortQ p)(hq:ShortQ q)(w:World)(hE:Env w):
 Calls Tryz.prog 32 #[qv p,qv q] w fun e w'=>e=.returned (.tuple #[.int .i64 (Rj p q),.int .i64 0])/\Below w.heap.size w w':=by
 refine Pa _ _ _ _ _ _ _ _ _ 0 (Rj p q) 0 w hE (fun W hW=>Jd p q hp hq W hW) ?_;unfold Rj;rw[AF]
 by_cases h1:p<q
 .exact .inr (.inl ⟨rfl,zH ((GM p q).2 h1),zG h1,rfl⟩)
 have hn:=(not_congr (GM p q)).2 h1;rw[zF h1]
 by_cases h2:p=q
 .refine .inr (.inr (.inl ⟨rfl,zD hn,?_,zG h2,rfl⟩));rw[(FY p q).2 h2];rfl
 refine .inr (.inr (.inr ⟨rfl,zD hn,?_,zF h2,rfl⟩));have h3:=CU (fun h=>h2 ((FY p q).1 h));exact zD (by omega)
theorem Mv(n:Int):Lib.trimPrefix (Lib.itoa n) [45]=Lib.decDigits n.natAbs:=by
 unfold Lib.itoa
 by_cases h:n<0
 .rw[zG h];simp[Lib.trimPrefix,Lib.hasPrefix]
 rw[zF h];have e:n.toNat=n.natAbs:=by omega
 rw[e];unfold Lib.trimPrefix Lib.hasPrefix;rw[zF];intro hp;have hd:=A6 n.natAbs
 cases hl:Lib.decDigits n.natAbs with
 |nil=>exact AL _ hl
 |cons c r=>
  rw[hl]at hp hd;simp at hp;have:=(hd c (by simp)).1;rw[<-hp]at this;revert this;decide
theorem KY(n:Int)(h0:-9223372036854775808<=n)(h1:n<=9223372036854775807)(w:World)(hE:Env w):
 Calls Tryz.prog 133 #[.int .i64 n] w fun e w'=>e=.returned (.string (T (some n.natAbs)))/\Below w.heap.size w w':=by
 have hi:=Qy n h0 h1 w hE.tab;have ht:=fun W=>Tryz.strings_TrimPrefix ⟨(Lib.itoa n).toArray⟩ ⟨#[45]⟩ W
 have e:(⟨(Lib.trimPrefix (⟨(Lib.itoa n).toArray⟩:ByteArray).data.toList (⟨#[45]⟩:ByteArray).data.toList).toArray⟩:ByteArray)=T (some n.natAbs):=by
  show (⟨(Lib.trimPrefix (Lib.itoa n) [45]).toArray⟩:ByteArray)=_
  rw[Mv];rfl
 rw[e]at ht;clear e;go_enter Tryz.func133,Tryz.ntmps133
 go_wp2_with fail
 refine hi.mono ?_;rintro e w1 ⟨rfl,a⟩;replace a:=zh a
 go_wp2_with fail
 refine(ht _).mono ?_;rintro e w2 ⟨rfl,d⟩;subst d;go_wp2;go_ret;exact⟨rfl,a.o⟩
theorem AR(w:World)(o:Obj):Below w.heap.size w (w.alloc o):=(zI _ w).alloc (zA _) _
theorem GN{n:Int}(h0:-9223372036854775808<=n)(h1:n<=9223372036854775807):n.natAbs<L1:=by
 have h:10^20<=L1:=zV (by omega) (by rw[DT];omega);omega
theorem WC(m n:Int)(af:-9223372036854775808<=m)(ag:m<=9223372036854775807)(ah:-9223372036854775808<=n)(ai:n<=9223372036854775807)(h0:n≠0)(r:Bool)(x y:ByteArray)(w:World)(hE:Env w)
 (hl:∀W,Env W->Calls Tryz.prog 119 #[.bool (!(decide (m<0)==decide (n<0))),.string (T (some m.natAbs)),.string (T (some n.natAbs))] W fun e w'=>e=.returned (.tuple #[.agg #[.bool r,.string x,.string y],.int .i64 0])/\Below W.heap.size W w'):
 Calls Tryz.prog 81 #[.int .i64 m,.int .i64 n] w fun e w'=>e=.returned (.tuple #[.agg #[.bool r,.string x,.string y],.int .i64 0])/\Below w.heap.size w w':=by
 have hz:(n==0)=false:=by rw[zM];exact h0
 have c1:=fun W (h:Env W)=>KY m af ag W h;have c2:=fun W (h:Env W)=>KY n ah ai W h;replace hE:=zh hE;replace hl:=zh hl;replace h0:=zh h0;clear af ag ah ai;go_enter Tryz.func81,Tryz.ntmps81
 go_wp2_with fail
 refine(c1 _ (hE.o.below (AR _ _))).mono ?_;rintro e w1 ⟨rfl,aa⟩;have q1:=(B3.new w false ⟨#[]⟩ ⟨#[]⟩).below aa;have a:=zh ((AR w (.cells #[.bool false,.string ⟨#[]⟩,.string ⟨#[]⟩] 34)).trans (aa.mono (by simp)));clear aa;replace q1:=zh q1
 go_wp2_with fail
 refine(c2 _ (hE.o.below a.o)).mono ?_;rintro e w2 ⟨rfl,ad⟩;have q2:=q1.o.below ad;have d:=zh (a.o.trans (ad.mono a.o.size));clear ad;replace q2:=zh q2
 go_wp2_with fail
 refine(hl.o _ (hE.o.below d.o)).mono ?_;rintro e w3 ⟨rfl,ae⟩;have q3:=q2.o.below ae;have aj:=zh (d.o.trans (ae.mono d.o.size));obtain⟨d1,d2,d3,d4,d5,d6⟩:=q3.facts;have ak:=q3.lt;clear ae;replace q3:=zh q3;go_wp2;refine zf (v:=.tuple #[.agg #[.bool r,.string x,.string y],.int .i64 0]) (by simp[results,Tryz.results81,go_sem,d1,d2,d3]) rfl ⟨rfl,?_⟩
 repeat refine zw ?_ (by simp only[];omega) _
 exact aj.o
def ofQ(m n:Int):Rat:=mkRat (sg (!(decide (m<0)==decide (n<0))) m.natAbs) n.natAbs
theorem Pb(m n:Int)(a:-9223372036854775808<=m)(d:m<=9223372036854775807)(h:-9223372036854775808<=n)(aa:n<=9223372036854775807)(h0:n≠0)(w:World)(hE:Env w):
 Calls Tryz.prog 81 #[.int .i64 m,.int .i64 n] w fun e w'=>e=.returned (.tuple #[qv (ofQ m n),.int .i64 0])/\Below w.heap.size w w' :=
 WC m n a d h aa h0 _ _ _ w hE fun W hW=>D4 _ m.natAbs n.natAbs W hW (AI (GN a d)) (AI (GN h aa)) (by omega)
def REnv(w:World):Prop:=Env w/\∃m:Int,w.cell? ⟨5,0,none⟩=some (.int .i64 m)
theorem REnv.lt{w:World}(h:REnv w):5<w.heap.size:=by
 obtain⟨_,m,hm⟩:=h;exact xe w _ hm
theorem REnv.below{w w':World}(h:REnv w)(hb:Below w.heap.size w w'):REnv w':=by
 have hl:=h.lt;obtain⟨h1,m,hm⟩:=h;exact⟨h1.below hb,m,(hb.cell (p:=⟨5,0,none⟩) hl).trans hm⟩
end Nt
end
section
open Go.ChangeShapes Go.WideShapes Go.ChangeAt Go.RowKit Go.Shelf Go.Joins
namespace Nt
theorem Vu{k:IntKind}{n:Int}(h:(Lit.int k n).wf=true):k.min<=n/\n<=k.max:=by simpa [Lit.wf] using h
section
variable {H:Type} {enc:TypeId×Value->H} {w:World} {base:Nat} {spare:Nat->Bool} {held:Bool}
theorem TL:Tryz.prog.cellsOf 34=3:=by kernel_rfl
end
end Nt
end
section
open Go.ChangeShapes Go.WideShapes Go.ChangeAt Go.RowKit Go.Shelf Go.Joins Go.Deep
namespace Ci
open Nt
def DF(x:Int):Prop:=-9223372036854775808<=x/\x<=9223372036854775807
def lkD{H:Type}(x:Lk):DataW H:=.agg [.lit (.int .i64 x.1),.lit (.int .i64 x.2.1),.agg [.lit (.bool x.2.2.1),.lit (.string x.2.2.2.1.data.toList),.lit (.string x.2.2.2.2.data.toList)]]
def Rk{H:Type}(x:ByteArray):DataW H:=.lit (.string x.data.toList)
def TM{H:Type}(x:Int):DataW H:=.lit (.int .i64 x)
def IL{H α:Type}(f:α->DataW H)(l:List α)(d:DataW H):Prop:=(d=.nil/\l=[])\/∃rest,d=.slice (l.map f) rest
section
variable {H:Type} {enc:TypeId×Value->H} {w:World} {base:Nat} {held:Bool}
theorem Pc{b o k:Nat}:(⟨b,o,none⟩:Addr).add k=⟨b,o+k,none⟩:=by unfold Addr.add;split<;>simp_all
theorem i64_in{x:Int}(h:(Lit.int .i64 x).wf=true):DF x:=by
 have:=Vu h;exact this
theorem Ie{fuel:Nat}{cs:List Value}{x:DataW H×List MemPlace}(h:DataW.trod enc Tryz.prog w base (fun _=>true) held fuel 26 cs=some x):
 ∃(A:Option Addr)(cap:Nat)(l:List Int),cs=[.slice A l.length cap]/\IL TM l x.1/\InInt w A l/\∀y,y∈l->DF y:=by
 rcases open_slice1 Tryz.underlying26 (by kernel_rfl) h with⟨h1,h2⟩|⟨a,len,cap,m,n,V,D,Pl,ae,hb,hl,hm,ad,hx,hi⟩
 .exact⟨none,0,[],h1,.inl ⟨by rw[h2],rfl⟩,fun h=>absurd h (by simp),fun y hy=>by cases hy⟩
 simp only[ww]at ad;subst ad
 have each:∀i,i<m->∃y:Int,V i=.int .i64 y/\D i=TM y/\DF y:=by
  intro i af;obtain⟨y,e1,e2,e3⟩:=DataW.trod_int Tryz.underlying3 (hi i af).2;exact⟨y,by simpa using e1,congrArg Prod.fst e2,i64_in e3⟩
 obtain⟨Y,hY⟩:=choose_lt each;refine⟨some a,m,(List.range len).map Y,by simpa using ae,.inr ⟨_,by rw[hx,xh];simp only[];congr 1;exact xB fun i d=>(hY i (by have:=List.mem_range.1 d;omega)).2.1⟩,fun h0=>?_,fun y hy=>?_⟩
 .simp only[zU,yZ]at h0;have aa:=(hi 0 (by omega)).1;have ag:=World.cell?_spot aa;obtain⟨b,o,s⟩:=a;have hs:s=none:=by simpa [Addr.add] using ag
  subst hs;refine⟨b,o,rfl,?_,fun j hj=>?_⟩
  .have:=xe w _ aa
   simpa [Pc] using this
  have ah:j<len:=by simpa using hj
  have hc:=(hi j (by omega)).1;rw[Pc,(hY j (by omega)).1]at hc;simp only[yH,wK];exact hc
 obtain⟨i,d,rfl⟩:=List.mem_map.1 hy;exact(hY i (by have:=List.mem_range.1 d;omega)).2.2
theorem Mw{fuel:Nat}{cs:List Value}{x:DataW H×List MemPlace}(h:DataW.trod enc Tryz.prog w base (fun _=>true) held fuel 22 cs=some x):
 ∃(A:Option Addr)(cap:Nat)(l:List ByteArray),cs=[.slice A l.length cap]/\IL Rk l x.1/\InStr w A l:=by
 rcases open_slice1 Tryz.underlying22 (by kernel_rfl) h with⟨h1,h2⟩|⟨a,len,cap,m,n,V,D,Pl,ad,hb,hl,hm,aa,hx,hi⟩
 .exact⟨none,0,[],h1,.inl ⟨by rw[h2],rfl⟩,fun h=>absurd h (by simp)⟩
 simp only[ww]at aa;subst aa
 have each:∀i,i<m->∃y:ByteArray,V i=.string y/\D i=Rk y:=by
  intro i af;obtain⟨y,e1,e2,_⟩:=vB Tryz.underlying9 (hi i af).2;exact⟨y,by simpa using e1,congrArg Prod.fst e2⟩
 obtain⟨Y,hY⟩:=choose_lt each;refine⟨some a,m,(List.range len).map Y,by simpa using ad,.inr ⟨_,by rw[hx,xh];simp only[];congr 1;exact xB fun i ae=>(hY i (by have:=List.mem_range.1 ae;omega)).2⟩,fun h0=>?_⟩;simp only[zU,yZ]at h0;have d:=(hi 0 (by omega)).1;have ag:=World.cell?_spot d;obtain⟨b,o,s⟩:=a;have hs:s=none:=by simpa [Addr.add] using ag
 subst hs;refine⟨b,o,rfl,?_,fun j hj=>?_⟩
 .have:=xe w _ d
  simpa [Pc] using this
 have ah:j<len:=by simpa using hj
 have hc:=(hi j (by omega)).1;rw[Pc,(hY j (by omega)).1]at hc;simp only[yH,wK];exact hc
theorem Rl:Tryz.prog.cellsOf 55=5:=by kernel_rfl
theorem Je{fuel:Nat}{cs:List Value}{x:DataW H×List MemPlace}(h:DataW.trod enc Tryz.prog w base (fun _=>true) held fuel 23 cs=some x):
 ∃(A:Option Addr)(cap:Nat)(l:List Lk),cs=[.slice A l.length cap]/\IL lkD l x.1/\InLk w A l/\(∀y,y∈l->DF y.1/\DF y.2.1)/\l.length<=cap:=by
 rcases open_slice Tryz.underlying23 h with⟨h1,h2⟩|⟨a,len,cap,m,n,D,Pl,ag,hb,hl,hm,ae,hx,hi⟩
 .exact⟨none,0,[],h1,.inl ⟨by rw[h2],rfl⟩,fun h=>absurd h (by simp),(fun y hy=>by cases hy),zA _⟩
 simp only[ww]at ae;subst ae
 have each:∀i,i<m->∃y:Lk,D i=lkD y/\(w.cell? (a.add (i*5))=some (.int .i64 y.1)/\w.cell? (a.add (i*5+1))=some (.int .i64 y.2.1)/\w.cell? (a.add (i*5+2))=some (.bool y.2.2.1)/\w.cell? (a.add (i*5+3))=some (.string y.2.2.2.1)/\w.cell? (a.add (i*5+4))=some (.string y.2.2.2.2))/\DF y.1/\DF y.2.1:=by
  intro i ah;obtain⟨cs',hc,aj⟩:=hi i ah;rw[Rl]at hc;obtain⟨y0,y1,y2,n',hy,_,t0,t1,t2⟩:=trod_struct3 Tryz.underlying55 aj;obtain⟨z0,z1,z2,n'',hz,_,u0,u1,u2⟩:=trod_struct3 Tryz.underlying34 t2;obtain⟨_,af,d⟩:=World.cells?_some hc
  match cs',af with
  | [c0,c1,c2,c3,c4],_=>
    have g0:=d 0 (by omega);have g1:=d 1 (by omega);have g2:=d 2 (by omega);have g3:=d 3 (by omega);have g4:=d 4 (by omega);rw[Go.Deep.add_add]at g0 g1 g2 g3 g4;obtain⟨a0,e0,k0,f0⟩:=DataW.trod_int Tryz.underlying3 t0;obtain⟨a1,e1,k1,f1⟩:=DataW.trod_int Tryz.underlying3 t1;obtain⟨a2,e2,k2⟩:=DataW.trod_bool Tryz.underlying4 u0;obtain⟨a3,e3,k3,_⟩:=vB Tryz.underlying9 u1;obtain⟨a4,e4,k4,_⟩:=vB Tryz.underlying9 u2;simp only[Prod.mk.injEq]at hy hz;have s1:Tryz.prog.cellsOf 3=1:=by kernel_rfl
    have s2:Tryz.prog.cellsOf 4=1:=by kernel_rfl
    have s3:Tryz.prog.cellsOf 9=1:=by kernel_rfl
    have s4:Tryz.prog.cellsOf 34=3:=by kernel_rfl
    have b0:c0=.int .i64 a0:=by simpa [s1,s2,s3,s4] using e0
    have b1:c1=.int .i64 a1:=by simpa [s1,s2,s3,s4] using e1
    have b2:c2=.bool a2:=by simpa [s1,s2,s3,s4] using e2
    have b3:c3=.string a3:=by simpa [s1,s2,s3,s4] using e3
    have b4:c4=.string a4:=by simpa [s1,s2,s3,s4] using e4
    subst b0 b1 b2 b3 b4;refine⟨(a0,a1,a2,a3,a4),?_,⟨by simpa using g0,by simpa using g1,by simpa using g2,by simpa using g3,by simpa using g4⟩,i64_in f0,i64_in f1⟩;rw[hy.1,k0,k1,hz,k2,k3,k4];rfl
 obtain⟨Y,hY⟩:=choose_lt each;refine⟨some a,m,(List.range len).map Y,by simpa using ag,.inr ⟨_,by rw[hx,xh];simp only[];congr 1;exact xB fun i aa=>(hY i (by have:=List.mem_range.1 aa;omega)).1⟩,fun h0=>?_,fun y hy=>?_,by rw[zU,yZ];omega⟩
 .simp only[zU,yZ]at h0;have ad:=(hY 0 (by omega)).2.1.1;have ai:=World.cell?_spot ad;obtain⟨b,o,s⟩:=a;have hs:s=none:=by simpa [Addr.add] using ai
  subst hs;refine⟨b,o,rfl,?_,fun j hj=>?_⟩
  .have:=xe w _ ad
   simpa [Pc] using this
  have ak:j<len:=by simpa using hj
  have hc:=(hY j (by omega)).2.1;simp only[Pc]at hc;simp only[yH,wK];exact hc
 obtain⟨i,aa,rfl⟩:=List.mem_map.1 hy;exact(hY i (by have:=List.mem_range.1 aa;omega)).2.2
theorem Rm{fuel:Nat}{cs:List Value}{x:DataW H×List MemPlace}(h:DataW.trod enc Tryz.prog w base (fun _=>true) held fuel 23 cs=some x):
 ∃(A:Option Addr)(cap:Nat)(l:List Lk),cs=[.slice A l.length cap]/\IL lkD l x.1/\InLk w A l/\∀y,y∈l->DF y.1/\DF y.2.1:=by
 obtain⟨A,cap,l,h1,h2,h3,h4,_⟩:=Je h;exact⟨A,cap,l,h1,h2,h3,h4⟩
end
end Ci
end
section
open Go.RowKit Go.Shelf
namespace Ci
open Nt
theorem Rn(s:ByteArray)(w:World)(hs:s.size<=9223372036854775807):
 Calls Tryz.prog 63 #[.string s] w fun e w'=>e=.returned (.bool (Bn s))/\w'=w:=by
 have HB:=zh (fun(k:Nat) (h:k<s.size) (hb:¬CT k s[k].toNat)=>ON (s:=s) h hb);have HA:=zh (OO (s:=s));go_enter Tryz.func63,Tryz.ntmps63;go_wp2
 go_loop [8] (fun i=>∃k:Nat,k<=s.size/\i=.int .i64 k/\Hid (∀i (h:i<s.size),i<k->CT i s[i].toNat)) (fun i=>s.size-(intOf i).toNat)
 case atStart=>exact⟨0,zP _,rfl,fun i _ h=>absurd h (yJ _)⟩
 case round=>
  obtain⟨k,hk,rfl,hI⟩:=hrel
  by_cases hlt:k<s.size
  .have hc:s[k].toNat<=255:=by have:=s[k].toNat_lt;omega
   have i0:(0:Int)<=(k:Int):=by omega
   have i1:(k:Int)<(s.size:Int):=by omega
   have HN:Hid (CT k s[k].toNat->∀i (h:i<s.size),i<k+1->CT i s[i].toNat):=fun h i hi h2=>by
    by_cases e:i=k
    .subst e;exact h
    exact hI.o i hi (by omega)
   have HB2:=zh (HB.o k hlt);clear hI
   by_cases e0:k=0
   .have b0:((k:Int)==0)=true:=by rw[xF];omega
    have b0n:((k:Int) != 0)=false:=by rw[zZ];omega
    have b3:(k==0)=true:=by rw[xF];omega
    replace e0:=zh e0;have a:(s[k].toNat<=47/\0<=s[k].toNat)\/(48<=s[k].toNat/\s[k].toNat<=57)\/(58<=s[k].toNat/\s[k].toNat<=64)\/(65<=s[k].toNat/\s[k].toNat<=90)\/(91<=s[k].toNat/\s[k].toNat<=94)\/(95<=s[k].toNat/\s[k].toNat<=95)\/(96<=s[k].toNat/\s[k].toNat<=96)\/(97<=s[k].toNat/\s[k].toNat<=122)\/(123<=s[k].toNat/\s[k].toNat<=255):=by omega
    rcases a with⟨g1,g2⟩|⟨g1,g2⟩|⟨g1,g2⟩|⟨g1,g2⟩|⟨g1,g2⟩|⟨g1,g2⟩|⟨g1,g2⟩|⟨g1,g2⟩|⟨g1,g2⟩
    .have b1:((s[k].toNat:Int) != 95)=true:=by rw[yC];omega
     have b2:((s[k].toNat:Int)==95)=false:=by rw[zM];omega
     have HR:Hid (Bn s=false):=HB2.o (by have:=e0.o;unfold CT;omega);clear HN HB2;go_wp2;go_ret;exact⟨Ak HR.o.symm,rfl⟩
    .have b1:((s[k].toNat:Int) != 95)=true:=by rw[yC];omega
     have b2:((s[k].toNat:Int)==95)=false:=by rw[zM];omega
     have HR:Hid (Bn s=false):=HB2.o (by have:=e0.o;unfold CT;omega);clear HN HB2;go_wp2;go_ret;exact⟨Ak HR.o.symm,rfl⟩
    .have b1:((s[k].toNat:Int) != 95)=true:=by rw[yC];omega
     have b2:((s[k].toNat:Int)==95)=false:=by rw[zM];omega
     have HR:Hid (Bn s=false):=HB2.o (by have:=e0.o;unfold CT;omega);clear HN HB2;go_wp2;go_ret;exact⟨Ak HR.o.symm,rfl⟩
    .have b1:((s[k].toNat:Int) != 95)=true:=by rw[yC];omega
     have b2:((s[k].toNat:Int)==95)=false:=by rw[zM];omega
     have HR:=zh (HN.o (by have:=e0.o;unfold CT;omega));clear HN HB2;go_wp2;go_round
     case rel=>exact⟨k+1,by omega,by go_num,HR⟩
     case measure=>simp[intOf];omega
    .have b1:((s[k].toNat:Int) != 95)=true:=by rw[yC];omega
     have b2:((s[k].toNat:Int)==95)=false:=by rw[zM];omega
     have c1:decide ((s[k].toNat:Int)<=90)=false:=by rw[zW];omega
     have d1:decide (s[k].toNat<=90)=false:=by rw[zW];omega
     have n1:¬((s[k].toNat:Int)<=90):=by omega
     have HR:Hid (Bn s=false):=HB2.o (by have:=e0.o;unfold CT;omega);clear HN HB2;go_wp2;go_ret;exact⟨Ak HR.o.symm,rfl⟩
    .have b1:((s[k].toNat:Int) != 95)=false:=by rw[zZ];omega
     have b2:((s[k].toNat:Int)==95)=true:=by rw[xF];omega
     have c1:decide ((s[k].toNat:Int)<=90)=false:=by rw[zW];omega
     have d1:decide (s[k].toNat<=90)=false:=by rw[zW];omega
     have n1:¬((s[k].toNat:Int)<=90):=by omega
     have HR:Hid (Bn s=false):=HB2.o (by have:=e0.o;unfold CT;omega);clear HN HB2;go_wp2;go_ret;exact⟨Ak HR.o.symm,rfl⟩
    .have b1:((s[k].toNat:Int) != 95)=true:=by rw[yC];omega
     have b2:((s[k].toNat:Int)==95)=false:=by rw[zM];omega
     have c1:decide ((s[k].toNat:Int)<=90)=false:=by rw[zW];omega
     have d1:decide (s[k].toNat<=90)=false:=by rw[zW];omega
     have n1:¬((s[k].toNat:Int)<=90):=by omega
     have HR:Hid (Bn s=false):=HB2.o (by have:=e0.o;unfold CT;omega);clear HN HB2;go_wp2;go_ret;exact⟨Ak HR.o.symm,rfl⟩
    .have b1:((s[k].toNat:Int) != 95)=true:=by rw[yC];omega
     have b2:((s[k].toNat:Int)==95)=false:=by rw[zM];omega
     have c1:decide ((s[k].toNat:Int)<=90)=false:=by rw[zW];omega
     have d1:decide (s[k].toNat<=90)=false:=by rw[zW];omega
     have n1:¬((s[k].toNat:Int)<=90):=by omega
     have HR:=zh (HN.o (by have:=e0.o;unfold CT;omega));clear HN HB2;go_wp2;go_round
     case rel=>exact⟨k+1,by omega,by go_num,HR⟩
     case measure=>simp[intOf];omega
    have b1:((s[k].toNat:Int) != 95)=true:=by rw[yC];omega
    have b2:((s[k].toNat:Int)==95)=false:=by rw[zM];omega
    have c0:decide ((s[k].toNat:Int)<=122)=false:=by rw[zW];omega
    have d0:decide (s[k].toNat<=122)=false:=by rw[zW];omega
    have n0:¬((s[k].toNat:Int)<=122):=by omega
    have c1:decide ((s[k].toNat:Int)<=90)=false:=by rw[zW];omega
    have d1:decide (s[k].toNat<=90)=false:=by rw[zW];omega
    have n1:¬((s[k].toNat:Int)<=90):=by omega
    have HR:Hid (Bn s=false):=HB2.o (by have:=e0.o;unfold CT;omega);clear HN HB2;go_wp2;go_ret;exact⟨Ak HR.o.symm,rfl⟩
   have b0:((k:Int)==0)=false:=by rw[zM];omega
   have b0n:((k:Int) != 0)=true:=by rw[yC];omega
   have b3:(k==0)=false:=by rw[zM];omega
   have a:(s[k].toNat<=47/\0<=s[k].toNat)\/(48<=s[k].toNat/\s[k].toNat<=57)\/(58<=s[k].toNat/\s[k].toNat<=64)\/(65<=s[k].toNat/\s[k].toNat<=90)\/(91<=s[k].toNat/\s[k].toNat<=94)\/(95<=s[k].toNat/\s[k].toNat<=95)\/(96<=s[k].toNat/\s[k].toNat<=96)\/(97<=s[k].toNat/\s[k].toNat<=122)\/(123<=s[k].toNat/\s[k].toNat<=255):=by omega
   rcases a with⟨g1,g2⟩|⟨g1,g2⟩|⟨g1,g2⟩|⟨g1,g2⟩|⟨g1,g2⟩|⟨g1,g2⟩|⟨g1,g2⟩|⟨g1,g2⟩|⟨g1,g2⟩
   .have b1:((s[k].toNat:Int) != 95)=true:=by rw[yC];omega
    have b2:((s[k].toNat:Int)==95)=false:=by rw[zM];omega
    have HR:Hid (Bn s=false):=HB2.o (by unfold CT;omega);clear HN HB2;go_wp2;go_ret;exact⟨Ak HR.o.symm,rfl⟩
   .have b1:((s[k].toNat:Int) != 95)=true:=by rw[yC];omega
    have b2:((s[k].toNat:Int)==95)=false:=by rw[zM];omega
    have HR:=zh (HN.o (by unfold CT;omega));clear HN HB2;go_wp2;go_round
    case rel=>exact⟨k+1,by omega,by go_num,HR⟩
    case measure=>simp[intOf];omega
   .have b1:((s[k].toNat:Int) != 95)=true:=by rw[yC];omega
    have b2:((s[k].toNat:Int)==95)=false:=by rw[zM];omega
    have HR:Hid (Bn s=false):=HB2.o (by unfold CT;omega);clear HN HB2;go_wp2;go_ret;exact⟨Ak HR.o.symm,rfl⟩
   .have b1:((s[k].toNat:Int) != 95)=true:=by rw[yC];omega
    have b2:((s[k].toNat:Int)==95)=false:=by rw[zM];omega
    have HR:=zh (HN.o (by unfold CT;omega));clear HN HB2;go_wp2;go_round
    case rel=>exact⟨k+1,by omega,by go_num,HR⟩
    case measure=>simp[intOf];omega
   .have b1:((s[k].toNat:Int) != 95)=true:=by rw[yC];omega
    have b2:((s[k].toNat:Int)==95)=false:=by rw[zM];omega
    have c1:decide ((s[k].toNat:Int)<=90)=false:=by rw[zW];omega
    have d1:decide (s[k].toNat<=90)=false:=by rw[zW];omega
    have n1:¬((s[k].toNat:Int)<=90):=by omega
    have HR:Hid (Bn s=false):=HB2.o (by unfold CT;omega);clear HN HB2;go_wp2;go_ret;exact⟨Ak HR.o.symm,rfl⟩
   .have b1:((s[k].toNat:Int) != 95)=false:=by rw[zZ];omega
    have b2:((s[k].toNat:Int)==95)=true:=by rw[xF];omega
    have c1:decide ((s[k].toNat:Int)<=90)=false:=by rw[zW];omega
    have d1:decide (s[k].toNat<=90)=false:=by rw[zW];omega
    have n1:¬((s[k].toNat:Int)<=90):=by omega
    have HR:=zh (HN.o (by unfold CT;omega));clear HN HB2;go_wp2;go_round
    case rel=>exact⟨k+1,by omega,by go_num,HR⟩
    case measure=>simp[intOf];omega
   .have b1:((s[k].toNat:Int) != 95)=true:=by rw[yC];omega
    have b2:((s[k].toNat:Int)==95)=false:=by rw[zM];omega
    have c1:decide ((s[k].toNat:Int)<=90)=false:=by rw[zW];omega
    have d1:decide (s[k].toNat<=90)=false:=by rw[zW];omega
    have n1:¬((s[k].toNat:Int)<=90):=by omega
    have HR:Hid (Bn s=false):=HB2.o (by unfold CT;omega);clear HN HB2;go_wp2;go_ret;exact⟨Ak HR.o.symm,rfl⟩
   .have b1:((s[k].toNat:Int) != 95)=true:=by rw[yC];omega
    have b2:((s[k].toNat:Int)==95)=false:=by rw[zM];omega
    have c1:decide ((s[k].toNat:Int)<=90)=false:=by rw[zW];omega
    have d1:decide (s[k].toNat<=90)=false:=by rw[zW];omega
    have n1:¬((s[k].toNat:Int)<=90):=by omega
    have HR:=zh (HN.o (by unfold CT;omega));clear HN HB2;go_wp2;go_round
    case rel=>exact⟨k+1,by omega,by go_num,HR⟩
    case measure=>simp[intOf];omega
   have b1:((s[k].toNat:Int) != 95)=true:=by rw[yC];omega
   have b2:((s[k].toNat:Int)==95)=false:=by rw[zM];omega
   have c0:decide ((s[k].toNat:Int)<=122)=false:=by rw[zW];omega
   have d0:decide (s[k].toNat<=122)=false:=by rw[zW];omega
   have n0:¬((s[k].toNat:Int)<=122):=by omega
   have c1:decide ((s[k].toNat:Int)<=90)=false:=by rw[zW];omega
   have d1:decide (s[k].toNat<=90)=false:=by rw[zW];omega
   have n1:¬((s[k].toNat:Int)<=90):=by omega
   have HR:Hid (Bn s=false):=HB2.o (by unfold CT;omega);clear HN HB2;go_wp2;go_ret;exact⟨Ak HR.o.symm,rfl⟩
  obtain rfl:k=s.size:=by omega
  have HE:Hid (Bn s=(decide (0<s.size)&&decide (s.size<=24))):=HA.o fun i h=>hI.o i h h
  have q0:s.toList.isEmpty=decide (s.size=0):=by
   rw[yR,x7]
   cases s.data.toList<;>simp
  clear hI
  by_cases h0:s.size=0
  .have q1:s.toList=[]:=by simpa [h0] using q0
   have q2:(!s.toList.isEmpty)=false:=by rw[q0,zH h0];rfl
   clear q0;go_wp2;go_ret;exact⟨Ak (by rw[HE.o,zD (by omega)];rfl),rfl⟩
  have q2:(!s.toList.isEmpty)=true:=by rw[q0,zD h0];rfl
  have q1:¬s.toList=[]:=fun e=>by rw[e]at q0;rw[zD h0]at q0;cases q0
  clear q0
  by_cases h24:s.size<=24
  .go_wp2;go_ret;exact⟨Ak (by rw[HE.o,zH (by omega:0<s.size),zH h24,zH (by omega:(s.size:Int)<=24)];rfl),rfl⟩
  go_wp2;go_ret;exact⟨Ak (by rw[HE.o,zH (by omega:0<s.size),zD h24,zD (by omega:¬(s.size:Int)<=24)];rfl),rfl⟩
theorem My(s:ByteArray)(w:World)(hs:s.size<=9223372036854775807):
 Calls Tryz.prog 63 #[.string s] w fun e w'=>e=.returned (.bool (Bn s))/\Below w.heap.size w w' :=
 (Rn s w hs).mono fun e w' h=>by
   obtain⟨rfl,rfl⟩:=h;exact⟨rfl,zI _ _⟩
theorem Wi(b:Nat):(6000:Int)%(b:Int)=((6000%b:Nat):Int):=(vI 6000 b).symm
theorem Vv{s:ByteArray}(h:isN s=true)(h4:s.size<=4):val s<10000:=by
 have h1:=DI (HU h);have h2:s.data.toList.length<=4:=by have:=x7 s;omega
 have h3:10^s.data.toList.length<=10^4:=zV (by omega) h2
 show A4 s.data.toList<10000
 omega
theorem UQ(s:ByteArray)(h:isN s=true)(h4:s.size<=4)(W:World):Calls Tryz.prog 110 #[.string s] W fun e w'=>e=.returned (.tuple #[.int .i64 (val s:Int),.nilIface])/\Below W.heap.size W w':=by
 have ha:=QK (val s);rw[NT h]at ha;have hv:val s<10000:=Vv h h4;rw[zG (by omega)]at ha;refine(Tryz.strconv_Atoi_ok s (by omega) _ ha W).mono ?_;rintro e w' ⟨rfl,rfl|⟨t,rfl⟩⟩
 .exact⟨rfl,zI _ _⟩
 exact⟨rfl,Go.Joins.below_bytesWorld _ _ _ _ (zA _)⟩
theorem KZ{g:Bool}{n d:ByteArray}(h:Au g n d=true):isN n=true/\isN d=true/\val d≠0:=by
 unfold Au at h;simp only[yI]at h;obtain⟨h1,h2,h3,_⟩:=h;exact⟨h1,h2,by simpa using h3⟩
theorem Jf{g:Bool}{n d:ByteArray}(h:Au g n d=false\/g=true\/4<n.size\/4<d.size):unitsN (g,n,d)=0:=zG h
theorem Mz{g:Bool}{n d:ByteArray}(h1:Au g n d=true)(h2:g=false)(h3:n.size<=4)(h4:d.size<=4):unitsN (g,n,d)=if val d<val n\/6000%val d≠0 then 0 else val n*(6000/val d):=by
 unfold unitsN;rw[zF];rintro(h|h|h|h)
 .rw[h1]at h;cases h
 .rw[h2]at h;cases h
 .simp only[]at h;omega
 simp only[]at h;omega
theorem Pd(g : Bool)(n d : ByteArray)(w : World)(hE : Env w)(hn:n.size<=140737488355328)(hd:d.size<=140737488355328):
 Calls Tryz.prog 65 #[.agg #[.bool g,.string n,.string d]] w fun e w'=>e=.returned (.int .i64 (unitsN (g,n,d):Int))/\Below w.heap.size w w':=by
 have hv:Hid (∀W,Env W->Calls Tryz.prog 66 #[.agg #[.bool g,.string n,.string d]] W fun e w'=>e=.returned (.bool (Au g n d))/\Below W.heap.size W w'):=fun W hW=>AP g n d W hW hn hd;replace hE:=zh hE;have aa:Hid (Below w.heap.size w (w.alloc (.cells #[.bool g,.string n,.string d] 34))):=(zI _ w).alloc (zA _) _;have aj:Hid (B3 (w.alloc (.cells #[.bool g,.string n,.string d] 34)) w.heap.size g n d):=B3.new w g n d
 cases h1:Au g n d with
 |false=>
  have HG:=zh (Jf (g:=g) (n:=n) (d:=d) (.inl h1));rw[h1]at hv;clear h1;go_enter Tryz.func65,Tryz.ntmps65
  go_wp2_with fail
  refine(hv.o _ (hE.o.below aa.o)).mono ?_;rintro e w1 ⟨rfl,hb⟩;have ad:=zh (aa.o.trans (hb.mono aa.o.size));clear hb;go_wp2;go_ret;exact⟨by rw[HG.o];rfl,ad.o⟩
 |true=>
  rw[h1]at hv;obtain⟨q1,q2,q3⟩:=KZ h1
  by_cases ah:g=true\/4<n.size\/4<d.size
  .have HG:=zh (Jf (g:=g) (n:=n) (d:=d) (.inr ah));clear h1 q1 q2 q3;go_enter Tryz.func65,Tryz.ntmps65
   go_wp2_with fail
   refine(hv.o _ (hE.o.below aa.o)).mono ?_;rintro e w1 ⟨rfl,hb⟩;have ad:=zh (aa.o.trans (hb.mono aa.o.size));obtain⟨f1,f2,f3,_,_,_⟩:=(aj.o.below hb).facts;have f4:=(aj.o.below hb).lt;clear hb
   have ak:g=true\/(g=false/\4<n.size)\/(g=false/\n.size<=4/\4<d.size):=by
    cases g
    .rcases ah with h|h|h
     .cases h
     .exact .inr (.inl ⟨rfl,h⟩)
     by_cases c:4<n.size
     .exact .inr (.inl ⟨rfl,c⟩)
     exact .inr (.inr ⟨rfl,by omega,h⟩)
    exact .inl rfl
   clear ah
   rcases ak with rfl|⟨rfl,z1⟩|⟨rfl,z1,z2⟩
   all_goals (
    go_wp2;go_ret;exact⟨by rw[HG.o];rfl,ad.o⟩)
  have z0:g=false:=by
   cases g
   .rfl
   exact absurd (.inl rfl) ah
  have z1:n.size<=4:=by omega
  have z2:d.size<=4:=by omega
  have HG:=Mz h1 z0 z1 z2;have ka:Hid (∀W,Calls Tryz.prog 110 #[.string n] W fun e w'=>e=.returned (.tuple #[.int .i64 (val n:Int),.nilIface])/\Below W.heap.size W w'):=fun W=>UQ n q1 z1 W;have kb:Hid (∀W,Calls Tryz.prog 110 #[.string d] W fun e w'=>e=.returned (.tuple #[.int .i64 (val d:Int),.nilIface])/\Below W.heap.size W w'):=fun W=>UQ d q2 z2 W;have v1:=Vv q1 z1;have v2:=Vv q2 z2;subst z0;clear h1 ah q1 q2;generalize hA:val n=a at *;generalize hB:val d=b at *;clear hA hB;have v3:1<=b:=by omega
  have ak:(b<a)\/(a<=b/\6000%b≠0)\/(a<=b/\6000%b=0):=by omega
  rcases ak with c1|⟨c1,c2⟩|⟨c1,c2⟩
  .rw[zG (.inl c1)]at HG;replace HG:=zh HG;go_enter Tryz.func65,Tryz.ntmps65
   go_wp2_with fail
   refine(hv.o _ (hE.o.below aa.o)).mono ?_;rintro e w1 ⟨rfl,hb⟩;have ad:=zh (aa.o.trans (hb.mono aa.o.size));have ae:=zh (aj.o.below hb);obtain⟨f1,f2,f3,_,_,_⟩:=ae.o.facts;have f4:=ae.o.lt;clear hb
   go_wp2_with fail
   refine(ka.o _).mono ?_;rintro e w2 ⟨rfl,hb⟩;have af:=zh (ad.o.trans (hb.mono ad.o.size));have ag:=zh (ae.o.below hb);clear hb f1 f2 f3 f4;obtain⟨f1,f2,f3,_,_,_⟩:=ag.o.facts;have f4:=ag.o.lt
   go_wp2_with fail
   refine(kb.o _).mono ?_;rintro e w3 ⟨rfl,hb⟩;have ai:=zh (af.o.trans (hb.mono af.o.size));clear hb f1 f2 f3 f4;go_wp2;go_ret;exact⟨by rw[HG.o];rfl,ai.o⟩
  .rw[zG (.inr c2)]at HG;replace HG:=zh HG;have t1:((6000:Int)%(b:Int) != 0)=true:=by rw[yC,Wi];omega
   go_enter Tryz.func65,Tryz.ntmps65
   go_wp2_with fail
   refine(hv.o _ (hE.o.below aa.o)).mono ?_;rintro e w1 ⟨rfl,hb⟩;have ad:=zh (aa.o.trans (hb.mono aa.o.size));have ae:=zh (aj.o.below hb);obtain⟨f1,f2,f3,_,_,_⟩:=ae.o.facts;have f4:=ae.o.lt;clear hb
   go_wp2_with fail
   refine(ka.o _).mono ?_;rintro e w2 ⟨rfl,hb⟩;have af:=zh (ad.o.trans (hb.mono ad.o.size));have ag:=zh (ae.o.below hb);clear hb f1 f2 f3 f4;obtain⟨f1,f2,f3,_,_,_⟩:=ag.o.facts;have f4:=ag.o.lt
   go_wp2_with fail
   refine(kb.o _).mono ?_;rintro e w3 ⟨rfl,hb⟩;have ai:=zh (af.o.trans (hb.mono af.o.size));clear hb f1 f2 f3 f4;go_wp2;go_ret;exact⟨by rw[HG.o];rfl,ai.o⟩
  rw[zF (by omega)]at HG;replace HG:=zh HG;have t1:((6000:Int)%(b:Int) != 0)=false:=by rw[zZ,Wi];omega
  have t2:a*(6000/b)<=6000:=zS (yG _ c1) (Nat.mul_div_le _ _);have t3:(0:Int)<=(a:Int)*((6000:Int)/(b:Int)):=by have:=Int.natCast_nonneg (a*(6000/b));rw[xC]at this;exact this
  have t4 : (a : Int) * ((6000 : Int) / (b : Int)) <= 6000 := by have h:((a*(6000/b):Nat):Int)<=6000:=by omega
                                                                 rw[xC]at h;exact h
  have HP:Hid (((a*(6000/b):Nat):Int)=(a:Int)*((6000:Int)/(b:Int))):=by rw[xC];rfl
  clear t2;go_enter Tryz.func65,Tryz.ntmps65
  go_wp2_with fail
  refine(hv.o _ (hE.o.below aa.o)).mono ?_;rintro e w1 ⟨rfl,hb⟩;have ad:=zh (aa.o.trans (hb.mono aa.o.size));have ae:=zh (aj.o.below hb);obtain⟨f1,f2,f3,_,_,_⟩:=ae.o.facts;have f4:=ae.o.lt;clear hb
  go_wp2_with fail
  refine(ka.o _).mono ?_;rintro e w2 ⟨rfl,hb⟩;have af:=zh (ad.o.trans (hb.mono ad.o.size));have ag:=zh (ae.o.below hb);clear hb f1 f2 f3 f4;obtain⟨f1,f2,f3,_,_,_⟩:=ag.o.facts;have f4:=ag.o.lt
  go_wp2_with fail
  refine(kb.o _).mono ?_;rintro e w3 ⟨rfl,hb⟩;have ai:=zh (af.o.trans (hb.mono af.o.size));clear hb f1 f2 f3 f4;go_wp2;go_ret;exact⟨by rw[HG.o,HP.o];rfl,ai.o⟩
end Ci
end
section
open Go.Maps (Keyed)
open Go.RowKit
namespace Ci
def Ro(v:Value):Option (DataW Value×List MemPlace):=some (.held v,[])
def Pe{α:Type}[DecidableEq α](f:α->Option Value)(x:α)(v:Option Value):α->Option Value:=fun y=>if y=x then v else f y
theorem Cf{α:Type}[DecidableEq α](f:α->Option Value)(x:α)(v:Option Value):Pe f x v x=v:=zG rfl
theorem BY{α:Type}[DecidableEq α]{f:α->Option Value}{x y:α}{v:Option Value}(h:y≠x):Pe f x v y=f y:=zF h
def MapK{α:Type}(P:Program)(k:TypeId)(κ:α->Lit)(w:World)(b c:Nat)(f:α->Option Value):Prop :=
 ∃D:DataW Value,w.ownsMap P k Ro b c D/\Maps.size D=c/\∀x,Maps.has D (κ x)=(f x).isSome/\∀z,D.atKey (κ x) z=match f x with|some v=>.held v|none=>z
section
variable {α:Type} {P:Program} {k t e:TypeId} {κ:α->Lit} {w w':World} {b c:Nat} {f:α->Option Value}
theorem Jg{R:Value->Option (DataW Value×List MemPlace)}{n:Nat}{D:DataW Value}(h:w.ownsMap P k R b n D):w.ownsMap P k R b (Maps.size D) D:=by
 obtain⟨es,clock,hb,F,_,rfl⟩:=h;refine⟨es,clock,hb,F,?_,rfl⟩;simp[Maps.size,length_sorted]
theorem MapK.made(w:World)(P:Program)(k:TypeId)(κ:α->Lit):MapK P k κ (w.alloc (.map #[] 0)) w.heap.size 0 fun _=>none :=
 ⟨.map [],World.ownsMap_made w P k Ro,rfl,fun _=>⟨rfl,fun _=>rfl⟩⟩
theorem MapK.lt(h:MapK P k κ w b c f):b<w.heap.size:=by obtain⟨D,h,_⟩:=h;exact h.lt
theorem MapK.kept{row:Option Nat}(h:MapK P k κ w b c f)(hg:w.grownBy w' row)(a:some b≠row):MapK P k κ w' b c f:=by
 obtain⟨D,h,r⟩:=h;exact⟨D,h.kept hg a,r⟩
theorem MapK.block(h:MapK P k κ w b c f)(hb:w'.heap[b]? = w.heap[b]?):MapK P k κ w' b c f:=by
 obtain⟨D,⟨es,clock,h1,h2⟩,r⟩:=h;exact⟨D,⟨es,clock,hb.trans h1,h2⟩,r⟩
theorem MapK.below(h:MapK P k κ w b c f)(hb:Below w.heap.size w w'):MapK P k κ w' b c f:=h.block (hb.block b h.lt)
theorem MapK.alloc(h:MapK P k κ w b c f)(o:Obj):MapK P k κ (w.alloc o) b c f:=by
 obtain⟨D,h,r⟩:=h;exact⟨D,h.alloc o,r⟩
theorem MapK.drew(h:MapK P k κ w b c f):MapK P k κ w.drew b c f:=h
theorem MapK.set(h:MapK P k κ w b c f){a:Addr}(ha:b≠a.block)(u:Value):MapK P k κ (w.setCell a u) b c f:=by
 obtain⟨D,h,r⟩:=h;exact⟨D,h.setCell ha u,r⟩
theorem MapK.congr{g:α->Option Value}(h:MapK P k κ w b c f)(e:∀x,f x=g x):MapK P k κ w b c g:=by rwa [<-funext e]
theorem MapK.look(h:MapK P k κ w b c f)(K:Keyed P k)(ht:P.underlying t=some (.map k e)){z:Value}(hz:(zeroValue e).run P w=.ok z w){key:Value}{x:α}(a:keyOf P k key=some (κ x)):
 (Instr.lookup t (.map (some b)) key false).run P w=.ok ((f x).getD z) w:=by
 obtain⟨D,h,_,hv⟩:=h;obtain⟨v,ps,d,hR⟩:=h.lookup K ht hz (zd:=.held z) (zp:=[]) rfl a;rw[d];rw[(hv x).2]at hR;simp only[Ro,Option.some.injEq,Prod.mk.injEq]at hR
 cases hf:f x with
 |none=>rw[hf]at hR;simp only[DataW.held.injEq]at hR;rw[hR.1];rfl
 |some u=>rw[hf]at hR;simp only[DataW.held.injEq]at hR;rw[hR.1];rfl
theorem MapK.look_ok(h:MapK P k κ w b c f)(K:Keyed P k)(ht:P.underlying t=some (.map k e)){z:Value}(hz:(zeroValue e).run P w=.ok z w){key:Value}{x:α}(a:keyOf P k key=some (κ x)):
 (Instr.lookup t (.map (some b)) key true).run P w=.ok (.tuple #[(f x).getD z,.bool (f x).isSome]) w:=by
 obtain⟨D,h,_,hv⟩:=h;obtain⟨v,ps,d,hR⟩:=h.look_ok K ht hz (zd:=.held z) (zp:=[]) rfl a;rw[d,(hv x).1];rw[(hv x).2]at hR;simp only[Ro,Option.some.injEq,Prod.mk.injEq]at hR
 cases hf:f x with
 |none=>rw[hf]at hR;simp only[DataW.held.injEq]at hR;rw[hR.1];rfl
 |some u=>rw[hf]at hR;simp only[DataW.held.injEq]at hR;rw[hR.1];rfl
theorem MapK.put[DecidableEq α](h:MapK P k κ w b c f)(hκ:∀x y,κ x=κ y->x=y)(K:Keyed P k)(ht:P.underlying t=some (.map k e))(hn:c<maxLen){key:Value}{x:α}(a:keyOf P k key=some (κ x))(v:Value):
 ∃w',(Instr.mapUpdate t (.map (some b)) key v).run P w=.ok () w'/\MapK P k κ w' b (if (f x).isSome then c else c+1) (Pe f x (some v))/\w.grownBy w' (some b):=by
 obtain⟨D,h,hs,hv⟩:=h;obtain⟨w',aa,h2,hg⟩:=h.update K ht hn a (R:=Ro) (val:=v) rfl
 have ad:Maps.size (D.put (κ x) (.held v))=if (f x).isSome then c else c+1:=by
  rw[Maps.size_put (h.tidy K),hs,(hv x).1]
 refine⟨w',aa,⟨_,by have:=Jg h2;rwa [ad]at this,ad,fun y=>?_⟩,hg⟩
 by_cases hy:y=x
 .subst hy;rw[Cf];exact⟨Maps.has_put_same h.isMap (K.key a) _,fun z=>Maps.atKey_put_same h.isMap (K.key a) _ z⟩
 have d:κ y≠κ x:=fun e=>hy (hκ _ _ e);rw[BY hy,Maps.has_put_other d];refine⟨(hv y).1,fun z=>?_⟩;rw[Maps.atKey_put_other d];exact(hv y).2 z
theorem MapK.del[DecidableEq α](h:MapK P k κ w b c f)(hκ:∀x y,κ x=κ y->x=y)(K:Keyed P k)(ht:P.underlying t=some (.map k e)){key:Value}{x:α}(a:keyOf P k key=some (κ x))(ty:TypeId):
 ∃w',(Builtin.delete_ #[t,k] ty #[.map (some b),key]).run P w=.ok (.tuple #[]) w'/\MapK P k κ w' b (if (f x).isSome then c-1 else c) (Pe f x none)/\w.grownBy w' (some b):=by
 obtain⟨D,h,hs,hv⟩:=h;obtain⟨w',aa,h2,hg⟩:=h.drop K ht a ty
 have ad:Maps.size (D.del (κ x))=if (f x).isSome then c-1 else c:=by
  have:=Maps.size_del (k:=κ x) (h.tidy K);rw[hs,(hv x).1]at this
  split<;>simp_all<;>omega
 refine⟨w',aa,⟨_,by have:=Jg h2;rwa [ad]at this,ad,fun y=>?_⟩,hg.grown⟩
 by_cases hy:y=x
 .subst hy;rw[Cf];exact⟨Maps.has_del_same,fun z=>Maps.atKey_del_same z⟩
 have d:κ y≠κ x:=fun e=>hy (hκ _ _ e);rw[BY hy,Maps.has_del_other d];refine⟨(hv y).1,fun z=>?_⟩;rw[Maps.atKey_del_other d];exact(hv y).2 z
theorem MapK.len(h:MapK P k κ w b c f)(ht:P.underlying t=some (.map k e))(ty:TypeId):(Builtin.len_ #[t] ty #[.map (some b)]).run P w=.ok (.int .i64 c) w:=by
 obtain⟨D,h,hs,_⟩:=h;rw[h.len ht,hs]
end
def κi(a:Int):Lit:=.int .i64 a
theorem Gy:∀x y,κi x=κi y->x=y:=fun x y h=>by injection h
theorem EG{P:Program}{k:TypeId}(hk:P.underlying k=some (.int .i64)){a:Int}(h1:-9223372036854775808<=a)(h2:a<=9223372036854775807):keyOf P k (.int .i64 a)=some (κi a):=Maps.keyOf_int_mk hk (WalkArith.wf_i64 ⟨h1,h2⟩)
end Ci
end
section
open Go.RowKit Go.Shelf
namespace Ci
open Nt
def BB:Code->List Code
 |.loop c=>BB c
 |.seq a b=>BB a++BB b
 |.block _ c=>BB c
 |.scope c=>BB c
 |.cond _ a b=>BB a++BB b
 |.region a b c=>[.region a b c]
 |_=>[]
noncomputable def Wj(j:Nat):Code:=((Tryz.f64.body.map BB).bind fun l=>l[j]?).getD .skip
theorem Wk{c0 c1 c2 c3 c4 c6 c7 c9 a d aa ad ae af ag ah ai aj ak al am an ao aq ar au av aw ax ay az aA aB aC aD aE aF aG aH aI aJ aK aL aM aN aO aP aQ aR aS aT aU aV aW aX aY aZ a0 a1 a2 a3 a4 a5 a6 a7 a8 a9 ba bb bd be bf bg bh bi bj bk bm bn bo bp bq br bs bt bu bv bw bx bz bA bB bC bD:Value}{Q:Exit->Act->World->Prop}(kb lb:Nat)(co ho lc lh:Int)(r:Bool)(hr:r=decide (lc<co\/(lc=co/\lh<ho)))(w:World)(u2:w.cell? ⟨kb,0,none⟩=some (.int .i64 co))(u3:w.cell? ⟨kb,1,none⟩=some (.int .i64 ho))(u4:w.cell? ⟨lb,0,none⟩=some (.int .i64 lc))(u5:w.cell? ⟨lb,1,none⟩=some (.int .i64 lh))
 (h:∀u33 u34 u35 u36 u37 u38 u39 u40 u41 u42 u43 u44 u45 u46 u47 u48 u49 u50 u51:Value,Q .normal ⟨#[c0,c1,c2,c3,c4,.pointer (some ⟨lb,0,none⟩),c6,c7,.pointer (some ⟨kb,0,none⟩),c9,.bool r,a,d,aa,ad,ae,af,ag,ah,ai,aj,ak,al,am,an,ao,aq,ar,au,av,aw,ax,ay,u33,u34,u35,u36,u37,u38,u39,u40,u41,u42,u43,u44,u45,u46,u47,u48,u49,u50,u51,az,aA,aB,aC,aD,aE,aF,aG,aH,aI,aJ,aK,aL,aM,aN,aO,aP,aQ,aR,aS,aT,aU,aV,aW,aX,aY,aZ,a0,a1,a2,a3,a4,a5,a6,a7,a8,a9,ba,bb,bd,be,bf,bg,bh],[]⟩ w):
 Code.wp Tryz.prog (Wj 7) Q ⟨#[c0,c1,c2,c3,c4,.pointer (some ⟨lb,0,none⟩),c6,c7,.pointer (some ⟨kb,0,none⟩),c9,bi,a,d,aa,ad,ae,af,ag,ah,ai,aj,ak,al,am,an,ao,aq,ar,au,av,aw,ax,ay,bj,bk,bm,bn,bo,bp,bq,br,bs,bt,bu,bv,bw,bx,bz,bA,bB,bC,bD,az,aA,aB,aC,aD,aE,aF,aG,aH,aI,aJ,aK,aL,aM,aN,aO,aP,aQ,aR,aS,aT,aU,aV,aW,aX,aY,aZ,a0,a1,a2,a3,a4,a5,a6,a7,a8,a9,ba,bb,bd,be,bf,bg,bh],[]⟩ w:=by
 conv=>arg 2;whnf
 conv=>arg 4;zeta
 replace h:=zh h;have bE:(lc<co)\/(co=lc/\lh<ho)\/(co<lc)\/(co=lc/\ho<=lh):=by omega
 rcases bE with r1|⟨r1,r2⟩|r1|⟨r1,r2⟩
 .have m1:(co==lc)=false:=by rw[zM];omega
  obtain rfl:r=true:=by rw[hr,zH (.inl r1)]
  clear hr;go_wp2;exact h.o ..
 .have m1:(co==lc)=true:=by rw[xF];exact r1
  have m2:co<=lc:=by omega
  obtain rfl:r=true:=by rw[hr,zH (.inr ⟨r1.symm,r2⟩)]
  clear hr r1;go_wp2;exact h.o ..
 .have m1:(co==lc)=false:=by rw[zM];omega
  obtain rfl:r=false:=by rw[hr,zD (by omega)]
  have m3:decide (lc<co)=false:=zD (by omega);clear hr;go_wp2;exact h.o ..
 have m1:(co==lc)=true:=by rw[xF];exact r1
 have m2:co<=lc:=by omega
 obtain rfl:r=false:=by rw[hr,zD (by omega)]
 have m3:decide (lc<co)=false:=zD (by omega);have m4:decide (lh<ho)=false:=zD (by omega);clear hr r1;go_wp2;exact h.o ..
theorem Wl{c0 c2 c3 c5 c6 a d aa ad ae af ag ah ai aj ak al am an ao aq ar au av aw ax ay az aA aB aC aD aE aF aG aH aI aJ aK aL aM aN aO aP aQ aR aS aT aU aV aW aX aY aZ a0 a1 a2 a3 a4 a5 a6 a7 a8 a9 ba bb bd be bf bg bh bi bj bk a78 a79 bm bn bo bp bq br bs bt bu a89 bv bw bx bz:Value}{Q:Exit->Act->World->Prop}(xb kb nb mb n p s:Nat)(co ho:Int)(r q:Bool)(hq:q=decide (co<0\/(n:Int)<=co\/ho<0\/(n:Int)<=ho\/co=ho\/r=false\/p=0\/6000<s))(w:World)(bC:p<=6000)(hs:s<=12000)(hn:n<=140737488355328)(u1:w.cell? ⟨xb,0,none⟩=some (.int .i64 co))(u2:w.cell? ⟨kb,0,none⟩=some (.int .i64 co))(u3:w.cell? ⟨kb,1,none⟩=some (.int .i64 ho))(u4:w.cell? ⟨nb,0,none⟩=some (.int .i64 (n:Int)))(hk:(Instr.lookup 91 (.map (some mb)) (.int .i64 co) false).run Tryz.prog w=.ok (.int .i64 (s:Int)) w)
 (h:∀u52 u53 u54 u55 u56 u57 u58 u59 u60 u61 u62 u63 u64 u65 u66 u67 u68 u69 u70 u71 u72 u73 u74 u75 u76 u77 u78 u79 u80 u81 u82 u83 u84 u85 u86 u87 u88 u89 u90 u91 u92:Value,Q .normal ⟨#[c0,.pointer (some ⟨nb,0,none⟩),c2,c3,.map (some mb),c5,c6,.pointer (some ⟨xb,0,none⟩),.pointer (some ⟨kb,0,none⟩),.int .i64 (p:Int),.bool r,a,d,aa,ad,ae,af,ag,ah,ai,aj,ak,al,am,an,ao,aq,ar,au,av,aw,ax,ay,az,aA,aB,aC,aD,aE,aF,aG,aH,aI,aJ,aK,aL,aM,aN,aO,aP,aQ,aR,u52,u53,u54,u55,u56,u57,u58,u59,u60,u61,u62,u63,u64,u65,u66,u67,u68,u69,u70,u71,u72,u73,u74,u75,u76,u77,u78,u79,u80,u81,u82,u83,u84,u85,u86,u87,u88,u89,u90,u91,u92,.bool q,aS,aT],[]⟩ w):
 Code.wp Tryz.prog (Wj 8) Q ⟨#[c0,.pointer (some ⟨nb,0,none⟩),c2,c3,.map (some mb),c5,c6,.pointer (some ⟨xb,0,none⟩),.pointer (some ⟨kb,0,none⟩),.int .i64 (p:Int),.bool r,a,d,aa,ad,ae,af,ag,ah,ai,aj,ak,al,am,an,ao,aq,ar,au,av,aw,ax,ay,az,aA,aB,aC,aD,aE,aF,aG,aH,aI,aJ,aK,aL,aM,aN,aO,aP,aQ,aR,aU,aV,aW,aX,aY,aZ,a0,a1,a2,a3,a4,a5,a6,a7,a8,a9,ba,bb,bd,be,bf,bg,bh,bi,bj,bk,a78,a79,bm,bn,bo,bp,bq,br,bs,bt,bu,a89,bv,bw,bx,bz,aS,aT],[]⟩ w:=by
 conv=>arg 2;whnf
 conv=>arg 4;zeta
 replace h:=zh h;have bA:(co<0)\/(0<=co/\(n:Int)<=co)\/(0<=co/\co<n/\ho<0)\/(0<=co/\co<n/\0<=ho/\(n:Int)<=ho)\/(0<=co/\co<n/\0<=ho/\ho<n/\co=ho)\/(0<=co/\co<n/\0<=ho/\ho<n/\co≠ho):=by omega
 rcases bA with b1|⟨b1,b2⟩|⟨b1,b2,b3⟩|⟨b1,b2,b3,b4⟩|⟨b1,b2,b3,b4,b5⟩|⟨b1,b2,b3,b4,b5⟩
 .have q0:True:=trivial;clear q0;obtain rfl:q=true:=by rw[hq,zH (.inl b1)]
  clear hq;go_wp2;exact h.o ..
 .have q0:True:=trivial;clear q0;obtain rfl:q=true:=by rw[hq,zH (.inr (.inl b2))]
  clear hq;go_wp2;exact h.o ..
 .have q0:True:=trivial;clear q0;obtain rfl:q=true:=by rw[hq,zH (.inr (.inr (.inl b3)))]
  clear hq;go_wp2;exact h.o ..
 .have q0:True:=trivial;clear q0;obtain rfl:q=true:=by rw[hq,zH (.inr (.inr (.inr (.inl b4))))]
  clear hq;go_wp2;exact h.o ..
 .have m5:(co==ho)=true:=by rw[xF];exact b5
  obtain rfl:q=true:=by rw[hq,zH (.inr (.inr (.inr (.inr (.inl b5)))))]
  clear hq b5;go_wp2;exact h.o ..
 have m5:(co==ho)=false:=by rw[zM];exact b5
 cases r with
 |false=>
  obtain rfl:q=true:=by rw[hq,zH (.inr (.inr (.inr (.inr (.inr (.inl rfl))))))]
  clear hq;go_wp2;exact h.o ..
 |true=>
  have bB:p=0\/(1<=p/\6000<s)\/(1<=p/\s<=6000):=by omega
  rcases bB with p1|⟨p1,p2⟩|⟨p1,p2⟩
  .have m6:((p:Int)==0)=true:=by rw[xF];omega
   have m7:(p==0)=true:=by rw[xF];exact p1
   obtain rfl:q=true:=by rw[hq,zH (.inr (.inr (.inr (.inr (.inr (.inr (.inl p1)))))))]
   clear hq;replace p1:=zh p1;go_wp2;exact h.o ..
  .have m6:((p:Int)==0)=false:=by rw[zM];omega
   have m7:(p==0)=false:=by rw[zM];omega
   have m8:decide (6000<(s:Int))=true:=zH (by omega);have m9:decide (6000<s)=true:=zH p2;obtain rfl:q=true:=by rw[hq,zH (.inr (.inr (.inr (.inr (.inr (.inr (.inr p2)))))))]
   clear hq;go_wp2;exact h.o ..
  have m6:((p:Int)==0)=false:=by rw[zM];omega
  have m7:(p==0)=false:=by rw[zM];omega
  obtain rfl:q=false:=by rw[hq,zD];rintro(c|c|c|c|c|c|c|c)<;>first|omega|exact b5 c|cases c
  have m8:decide (6000<(s:Int))=false:=zD (by omega);have m9:decide (6000<s)=false:=zD (by omega);have bD:decide (co<0)=false:=zD (by omega);have bE:decide ((n:Int)<=co)=false:=zD (by omega);have bF:decide (ho<0)=false:=zD (by omega);have bG:decide ((n:Int)<=ho)=false:=zD (by omega);clear hq;go_wp2;exact h.o ..
def Bk(W:World)(b:Nat)(t:TypeId)(l:List Value):Prop:=W.heap[b]? = some (.cells l.toArray t (0,0))
section
variable {W W':World} {b:Nat} {t:TypeId} {l:List Value}
theorem Bk.lt(h:Bk W b t l):b<W.heap.size:=(Array.getElem?_eq_some_iff.1 h).1
theorem Bk.cell(h:Bk W b t l){j:Nat}{v:Value}(hj:l[j]? = some v):W.cell? ⟨b,j,none⟩=some v:=by
 unfold Bk at h;simp[World.cell?,h,hj]
theorem Bk.c0(h:Bk W b t l){v:Value}(hj:l[0]?=some v:=by exact rfl):W.cell? ⟨b,0,none⟩=some v:=h.cell hj
theorem Bk.c1(h:Bk W b t l){v:Value}(hj:l[1]?=some v:=by exact rfl):W.cell? ⟨b,1,none⟩=some v:=h.cell hj
theorem Bk.c2(h:Bk W b t l){v:Value}(hj:l[2]?=some v:=by exact rfl):W.cell? ⟨b,2,none⟩=some v:=h.cell hj
theorem Bk.c3(h:Bk W b t l){v:Value}(hj:l[3]?=some v:=by exact rfl):W.cell? ⟨b,3,none⟩=some v:=h.cell hj
theorem Bk.c4(h:Bk W b t l){v:Value}(hj:l[4]?=some v:=by exact rfl):W.cell? ⟨b,4,none⟩=some v:=h.cell hj
theorem Bk.c5(h:Bk W b t l){v:Value}(hj:l[5]?=some v:=by exact rfl):W.cell? ⟨b,5,none⟩=some v:=h.cell hj
theorem Bk.c6(h:Bk W b t l){v:Value}(hj:l[6]?=some v:=by exact rfl):W.cell? ⟨b,6,none⟩=some v:=h.cell hj
theorem Bk.c7(h:Bk W b t l){v:Value}(hj:l[7]?=some v:=by exact rfl):W.cell? ⟨b,7,none⟩=some v:=h.cell hj
theorem Bk.frozen(h:Bk W b t l)(j:Nat):W.frozen? ⟨b,j,none⟩=false:=by
 unfold Bk at h;simp[World.frozen?,h]
theorem Bk.new(w:World)(t:TypeId)(l:List Value):Bk (w.alloc (.cells l.toArray t)) w.heap.size t l:=yM _ _
theorem Bk.below(h:Bk W b t l)(hb:Below W.heap.size W W'):Bk W' b t l:=(hb.block b h.lt).trans h
theorem Bk.alloc(h:Bk W b t l)(o:Obj):Bk (W.alloc o) b t l:=(yj W o b h.lt).trans h
theorem Bk.grown{row:Option Nat}(h:Bk W b t l)(hg:W.grownBy W' row)(a:some b≠row):Bk W' b t l:=(hg.block b h.lt a).trans h
theorem Bk.far(h:Bk W b t l){p:Addr}(hp:b≠p.block)(v:Value):Bk (W.setCell p v) b t l:=(zg _ _ _ _ hp).trans h
theorem Bk.set(h:Bk W b t l)(j:Nat)(v:Value):Bk (W.setCell ⟨b,j,none⟩ v) b t (l.set j v):=by
 unfold Bk at h ⊢;simp[World.setCell,Array.getElem?_modify,h]
end
theorem sumU_take{l:List Lk}{k:Nat}(h:k<l.length)(c:Int):sumU (l.take (k+1)) c=sumU (l.take k) c+if l[k].1=c then unitsN (lkP l[k]) else 0:=by
 unfold sumU;rw[zO h,xp,xG,List.sum_append]
 congr 1
 by_cases e:l[k].1=c
 .rw[zG e,xJ,zG (zH e)];simp
 rw[zF e,xJ,zF (by simpa using e)];simp
theorem NU{n:Nat}{l:List Lk}:∀k,k<=l.length->(∀i (h:i<l.length),i<k->CJ n l i h)->∀c,sumU (l.take k) c<=6000:=by
 intro k
 induction k with
 |zero=>intro _ _ c;simp[sumU]
 |succ k ih=>
  intro hk h c;have h1:=ih (by omega) (fun i hi h2=>h i hi (by omega)) c;rw[sumU_take (by omega)]
  by_cases e:l[k].1=c
  .have h2:=(h k (by omega) (by omega)).2.2;rw[sumU_take (by omega),zG rfl,e]at h2;rw[zG e];exact h2
  rw[zF e];omega
def TN(W:World)(b:Nat)(l:List Lk)(k:Nat):Prop:=∃c f,MapK Tryz.prog 3 κi W b c f/\c<=k/\∀y:Int,(f y).getD (.int .i64 0)=.int .i64 (sumU (l.take k) y:Int)
def WP(l:List Lk)(k:Nat):List Value:=match l[k-1]? with
 |some x=>if k=0 then [.int .i64 (-1),.int .i64 (-1)] else [.int .i64 x.1,.int .i64 x.2.1]
 |none=>[.int .i64 (-1),.int .i64 (-1)]
def Ee(l:List Lk)(k:Nat):Int:=match l[k-1]? with
 |some x=>if k=0 then -1 else x.1
 |none=>-1
def EP(l:List Lk)(k:Nat):Int:=match l[k-1]? with
 |some x=>if k=0 then -1 else x.2.1
 |none=>-1
theorem Gz(l:List Lk):Ee l 0=-1/\EP l 0=-1:=by
 unfold Ee EP
 cases l[0-1]?<;>simp
theorem Jh{l:List Lk}{k:Nat}(h:k<l.length):Ee l (k+1)=l[k].1/\EP l (k+1)=l[k].2.1:=by
 unfold Ee EP;rw[wh,zY h];simp
theorem Rp{l:List Lk}{k:Nat}(h:k<l.length)(h0:0<=l[k].1):(0<k->Ml (l[k-1]'(by omega)) l[k])<->(Ee l k<l[k].1\/(Ee l k=l[k].1/\EP l k<l[k].2.1)):=by
 by_cases e:k=0
 .subst e;have:=Gz l;constructor
  .intro _;left;omega
  intro _ hc;omega
 obtain⟨j,rfl⟩:∃j,k=j+1:=⟨k-1,by omega⟩;have hj:j<l.length:=by omega
 obtain⟨e1,e2⟩:=Jh hj;rw[e1,e2];have hg:l[j+1-1]'(by omega)=l[j]:=by simp
 rw[hg];unfold Ml;exact⟨fun h=>h (by omega),fun h _=>h⟩
def TO(w:World)(n:Nat)(l:List Lk)(mb lb:Nat)(k:Nat)(wr:World):Prop :=
 Hid (Below w.heap.size w wr)/\Hid (TN wr mb l k)/\Hid (Bk wr lb 93 [.int .i64 (Ee l k),.int .i64 (EP l k)])/\Hid (∀i (h:i<l.length),i<k->CJ n l i h)
theorem FI:Go.Maps.Keyed Tryz.prog 3:=Go.Maps.int_keyed Tryz.underlying3
theorem UR(w:World):(zeroValue 3).run Tryz.prog w=.ok (.int .i64 0) w:=by kernel_rfl
theorem Rq(A:Option Addr)(cap n nb:Nat)(l:List Lk)(w:World)(hE:Env w)(hl:InLk w A l)(bq:l.length<=140737488355328)(hn:n<=140737488355328)(aD:w.cell? ⟨nb,0,none⟩=some (.int .i64 (n:Int)))
 (hz:∀x,x∈l->x.2.2.2.1.size<=140737488355328/\x.2.2.2.2.size<=140737488355328)(hi:∀x,x∈l->(-9223372036854775808<=x.1/\x.1<=9223372036854775807)/\(-9223372036854775808<=x.2.1/\x.2.1<=9223372036854775807)):
 Calls Tryz.prog 64 #[.slice A l.length cap,.pointer (some ⟨nb,0,none⟩)] w fun e w'=>e=.returned (.bool (EO n l))/\Below w.heap.size w w':=by
 have bk:=@run_makeMap Tryz.prog;have bm:=xe w _ aD;have aW:Hid (TN ((w.alloc (.map #[] 0)).alloc (.cells #[.int .i64 (-1),.int .i64 (-1)] 93)) w.heap.size l 0):=⟨0,_,(MapK.made w _ _ _).alloc _,zA _,fun y=>rfl⟩
 have aU:Hid (Bk ((w.alloc (.map #[] 0)).alloc (.cells #[.int .i64 (-1),.int .i64 (-1)] 93)) (w.heap.size+1) 93 [.int .i64 (Ee l 0),.int .i64 (EP l 0)]):=by
  have h:=Bk.new (w.alloc (.map #[] 0)) 93 [.int .i64 (-1),.int .i64 (-1)];rw[zK]at h;rw[(Gz l).1,(Gz l).2];exact h
 have aR:Hid (Below w.heap.size w ((w.alloc (.map #[] 0)).alloc (.cells #[.int .i64 (-1),.int .i64 (-1)] 93))):=((zI _ w).alloc (zA _) _).alloc (by simp) _;replace hE:=zh hE;replace hl:=zh hl;replace hz:=zh hz;replace hi:=zh hi;replace aD:=zh aD;have bf:=zh (fun(k:Nat) (h:k<l.length) (hb:¬CJ n l k h)=>Rd (n:=n) (l:=l) h hb);have be:=zh (Re (n:=n) (l:=l));go_enter Tryz.func64,Tryz.ntmps64;go_wp2;clear bk
 go_loopw [15] (fun i wr=>∃k:Nat,k<=l.length/\i=.int .i64 (k:Int)/\Hid (TO w n l w.heap.size (w.heap.size+1) k wr)) (fun i _=>l.length-(intOf i).toNat)
 case atStart=>exact⟨0,zP _,rfl,aR,aW,aU,fun i _ h=>absurd h (yJ _)⟩
 case round=>
  obtain⟨k,hk,rfl,hI⟩:=hrel;clear aW aU aR;obtain⟨hB,hM,hL,hA⟩:=hI.o
  by_cases hlt:k<l.length
  .obtain ⟨b,o,rfl,bj,hc⟩:=(hl.o.below hB.o) (by omega);obtain⟨e1,e2,e3,e4,e5⟩:=hc k hlt;have bb:=hz.o l[k] (zN hlt);have aZ:=hi.o l[k] (zN hlt);have aw:=zh (bf.o k hlt);have ao:=zh (sumU_take hlt);have ag:=zh (Rp hlt);have ax:=zh (Jh hlt);have a7:=NU k hk hA.o
   have aQ:Hid (CJ n l k hlt->∀i (h:i<l.length),i<k+1->CJ n l i h):=fun h i hi h2=>by
    by_cases e:i=k
    .subst e;exact h
    exact hA.o i hi (by omega)
   have af:Hid (CJ n l k hlt<->(Own n l[k]/\(0<k->Ml (l[k-1]'(by omega)) l[k])/\sumU (l.take (k+1)) l[k].1<=6000)):=vw;obtain⟨x,hx⟩:∃x,x=l[k]:=⟨_,rfl⟩;rw[<-hx]at e1 e2 e3 e4 e5 bb aZ ao ag ax af;obtain⟨co,ho,g,nn,dd⟩:=x;replace e1:wr.cell? ⟨b,o+k*5,none⟩=some (.int .i64 co):=e1;replace e2:wr.cell? ⟨b,o+k*5+1,none⟩=some (.int .i64 ho):=e2;replace e3:wr.cell? ⟨b,o+k*5+2,none⟩=some (.bool g):=e3;replace e4:wr.cell? ⟨b,o+k*5+3,none⟩=some (.string nn):=e4;replace e5:wr.cell? ⟨b,o+k*5+4,none⟩=some (.string dd):=e5;obtain⟨⟨i1,i2⟩,i3,i4⟩:=aZ;replace i1:-9223372036854775808<=co:=i1;replace i2:co<=9223372036854775807:=i2;replace i3:-9223372036854775808<=ho:=i3;replace i4:ho<=9223372036854775807:=i4;obtain⟨z1,z2⟩:=bb;replace z1:nn.size<=140737488355328:=z1;replace z2:dd.size<=140737488355328:=z2;have a6:=a7 co;have aO:=Rc (g,nn,dd);have ku:Hid (∀W,Env W->Calls Tryz.prog 65 #[.agg #[.bool g,.string nn,.string dd]] W fun e w'=>e=.returned (.int .i64 (unitsN (g,nn,dd):Int))/\Below W.heap.size W w'):=fun W hW=>Pd g nn dd W hW z1 z2;replace af:Hid (CJ n l k hlt<->((0<=co/\co<n)/\(0<=ho/\ho<n)/\co≠ho/\unitsN (g,nn,dd)≠0)/\(0<k->Ml (l[k-1]'(by omega)) (co,ho,g,nn,dd))/\sumU (l.take (k+1)) co<=6000):=af;replace ag:Hid (0<=co->((0<k->Ml (l[k-1]'(by omega)) (co,ho,g,nn,dd))<->(Ee l k<co\/(Ee l k=co/\EP l k<ho)))):=ag;replace ao:Hid (∀c,sumU (l.take (k+1)) c=sumU (l.take k) c+if co=c then unitsN (g,nn,dd) else 0):=ao;replace ax:Hid (Ee l (k+1)=co/\EP l (k+1)=ho):=ax;have aj:Hid (sumU (l.take (k+1)) co=sumU (l.take k) co+unitsN (g,nn,dd)):=by have h:=ao.o co;rwa [zG rfl]at h
   obtain⟨p,hp⟩:∃p,p=unitsN (g,nn,dd):=⟨_,rfl⟩;rw[<-hp]at aO ku af ao aj;obtain⟨sk,am⟩:∃s,s=sumU (l.take k) co:=⟨_,rfl⟩;rw[<-am]at a6 aj;obtain⟨lc,aL⟩:∃s,s=Ee l k:=⟨_,rfl⟩;obtain⟨lh,aM⟩:∃s,s=EP l k:=⟨_,rfl⟩;rw[<-aL,<-aM]at hL ag;replace hp:=zh hp;replace hx:=zh hx;replace am:=zh am;replace aL:=zh aL;replace aM:=zh aM;have i0:(0:Int)<=(k:Int):=by omega
   have i5:(k:Int)<(l.length:Int):=by omega
   clear hc a7 hI hl hz hi;have ar:Hid (Bk (wr.alloc (.cells #[.int .i64 co,.int .i64 ho,.bool g,.string nn,.string dd] 55)) wr.heap.size 55 [.int .i64 co,.int .i64 ho,.bool g,.string nn,.string dd]):=Bk.new wr _ _;have ae:=zh (hB.o.alloc hB.o.size (.cells #[.int .i64 co,.int .i64 ho,.bool g,.string nn,.string dd] 55));have hL1:=zh (hL.o.alloc (.cells #[.int .i64 co,.int .i64 ho,.bool g,.string nn,.string dd] 55));obtain⟨mc,f,aX,bt,hf⟩:=hM.o;have aI:=zh (aX.alloc (.cells #[.int .i64 co,.int .i64 ho,.bool g,.string nn,.string dd] 55));replace hf:=zh hf;clear aX
   go_wp2_with fail
   obtain⟨W1,aY⟩:∃W,W=wr.alloc (.cells #[.int .i64 co,.int .i64 ho,.bool g,.string nn,.string dd] 55):=⟨_,rfl⟩;rw[<-aY]at ar ae hL1 aI ⊢;have bp:w.heap.size+1<wr.heap.size:=hL.o.lt;obtain⟨xb,a9⟩:∃b,b=wr.heap.size:=⟨_,rfl⟩;rw[<-a9]at ar bp ⊢;clear aY a9 hL hB hM e1 e2 e3 e4 e5 bj
   have HO:Hid (∀W,Below W1.heap.size W1 W->W.cell? ⟨xb,0,none⟩=some (.int .i64 co)/\W.cell? ⟨xb,1,none⟩=some (.int .i64 ho)/\W.cell? ⟨xb,2,none⟩=some (.bool g)/\W.cell? ⟨xb,3,none⟩=some (.string nn)/\W.cell? ⟨xb,4,none⟩=some (.string dd)):=fun W h=>
    have h:=ar.o.below h
    ⟨h.c0,h.c1,h.c2,h.c3,h.c4⟩
   have aH:Hid (Below W1.heap.size W1 W1):=zI _ _;have aG:Hid (Below W1.heap.size W1 (W1.alloc (.cells #[.int .i64 0,.int .i64 0] 93))):=(zI _ _).alloc (zA _) _;have au:Hid (Below W1.heap.size W1 (W1.alloc (.cells #[.int .i64 0,.int .i64 0] 93)).drew):=aG.o.drew;have av:Hid (Below W1.heap.size W1 W1.drew):=aH.o.drew;have aT:Hid (Env W1.drew):=hE.o.below (ae.o.trans (av.o.mono ae.o.size));have aS:Hid (Env (W1.alloc (.cells #[.int .i64 0,.int .i64 0] 93)).drew):=hE.o.below (ae.o.trans (au.o.mono ae.o.size));have ba:Hid (Bk (W1.alloc (.cells #[.int .i64 0,.int .i64 0] 93)).drew W1.heap.size 93 [.int .i64 0,.int .i64 0]):=Bk.new W1 93 _;have bo:=ar.o.lt
   go_region_held3 (fun w'=>w'.cell? ⟨xb,0,none⟩=some (.int .i64 co)/\w'.cell? ⟨xb,1,none⟩=some (.int .i64 ho)/\w'.cell? ⟨xb,2,none⟩=some (.bool g)/\w'.cell? ⟨xb,3,none⟩=some (.string nn)/\w'.cell? ⟨xb,4,none⟩=some (.string dd)) (first|(with_reducible exact HO.o _ aH.o)|(with_reducible exact HO.o _ av.o)|(with_reducible exact HO.o _ au.o)|(with_reducible exact HO.o _ aG.o)|(with_reducible exact HO.o _ aa.o)|(with_reducible exact HO.o _ (aa.o.alloc aa.o.size _))|(with_reducible exact HO.o _ ((aa.o.setCell (zA _) _).setCell (zA _) _))|go_keep)
    (first
      |(go_at_call 65;refine(ku.o _ ?_).mono ?_;(with_reducible exact aS.o);rintro e w2 ⟨rfl,aq⟩;have ak:=zh (ba.o.below aq);have aa:=zh (au.o.trans (aq.mono au.o.size));have y1:=ak.o.c0;have y2:=ak.o.c1;have y3:=ak.o.frozen 0;have y4:=ak.o.frozen 1;have y5:=ak.o.lt;clear aq)
      |(go_at_call 65;refine(ku.o _ ?_).mono ?_;(with_reducible exact aT.o);rintro e w2 ⟨rfl,aq⟩;have aa:=zh (av.o.trans (aq.mono av.o.size));clear aq))
   all_goals (
    first
     |(obtain⟨kb,ah⟩:∃b,b=w2.heap.size:=⟨_,rfl⟩;obtain⟨w5,ai⟩:∃W,W=w2.alloc (.cells #[.int .i64 co,.int .i64 ho] 93):=⟨_,rfl⟩;rw[<-ai,<-ah];have az:Hid (Bk w5 kb 93 [.int .i64 co,.int .i64 ho]):=(by rw[ai,ah];exact Bk.new w2 _ _);have an:Hid (Below W1.heap.size W1 w5):=(by rw[ai];exact aa.o.alloc aa.o.size _);have a0:W1.heap.size<=kb:=(by rw[ah];exact aa.o.size))
     |(obtain⟨kb,ah⟩:∃b,b=W1.heap.size:=⟨_,rfl⟩;obtain⟨w5,ai⟩:∃W,W=(w2.setCell ⟨W1.heap.size,0,none⟩ (.int .i64 co)).setCell ⟨W1.heap.size,1,none⟩ (.int .i64 ho):=⟨_,rfl⟩;rw[<-ai,<-ah];have az:Hid (Bk w5 kb 93 [.int .i64 co,.int .i64 ho]):=(by rw[ai,ah];exact(ak.o.set 0 _).set 1 _);have an:Hid (Below W1.heap.size W1 w5):=(by rw[ai];exact(aa.o.setCell (zA _) _).setCell (zA _) _);have a0:W1.heap.size<=kb:=(by rw[ah];exact zA _);clear ak y1 y2 y3 y4 y5)
    clear ai ah aa av au aG ba aT aS aH;have aP:=zh (ar.o.below an.o);have aV:=zh (hL1.o.below an.o);have aJ:=zh (aI.o.below an.o);have aE:=zh (ae.o.trans (an.o.mono ae.o.size));have bs:xb<kb:=by omega
    clear HO ar hL1 aI ae an bo a0;have aC:=EG Tryz.underlying3 i1 i2;have aB:=aJ.o.look FI Tryz.underlying91 (UR _) aC;rw[hf.o co,<-am.o]at aB;obtain⟨w6,a5,aK,ay⟩:=aJ.o.put Gy FI Tryz.underlying91 (by unfold maxLen;omega) aC (.int .i64 ((sk:Int)+(p:Int)));have u1:=aP.o.c0;have u2:=az.o.c0;have u3:=az.o.c1;have s0:(0:Int)<=(sk:Int)+(p:Int):=by omega
    go_upto_region 7 with(fail)
    have a8:some xb≠some w.heap.size:=fun e=>by have:=Option.some.inj e;omega
    have a2:some kb≠some w.heap.size:=fun e=>by have:=Option.some.inj e;omega
    have a3:some (w.heap.size+1)≠some w.heap.size:=fun e=>by have:=Option.some.inj e;omega
    have bn:=zh (aP.o.grown ay a8);have aA:=zh (az.o.grown ay a2);have ad:=zh (aV.o.grown ay a3);have aF:Hid (Below w.heap.size w w6):=aE.o.grown ay aE.o.size (fun b e=>by cases e;exact zA _);have d:=aK.look FI Tryz.underlying91 (UR _) aC;rw[Cf]at d;replace d:(Instr.lookup 91 (.map (some w.heap.size)) (.int .i64 co) false).run Tryz.prog w6=.ok (.int .i64 ((sk:Int)+(p:Int))) w6:=d
    have bh:Hid (TN w6 w.heap.size l (k+1)):=by
     refine⟨_,_,aK,by split<;>omega,fun y=>?_⟩
     by_cases e:y=co
     .rw[e,Cf,aj.o];rfl
     rw[BY e,hf.o y,ao.o y,zF fun c=>e c.symm,xY]
    have n1:=(aF.o.cell (p:=⟨nb,0,none⟩) bm).trans aD.o;have a1:Hid (w.heap.size+1≠kb):=fun e=>by omega
    clear a5 aB aC aP az aV aJ aE aK ay u1 u2 u3 a8 a2 a3 hf;have u1:=bn.o.c0;have u2:=aA.o.c0;have u3:=aA.o.c1;have u4:=ad.o.c0;have u5:=ad.o.c1;have u6:=ad.o.frozen 0;have u7:=ad.o.frozen 1;have u8:=ad.o.lt;have u9:=aA.o.lt;clear u6 u7;obtain⟨r,hr⟩:∃r:Bool,r=decide (lc<co\/(lc=co/\lh<ho)):=⟨_,rfl⟩;obtain⟨q,hq⟩:∃q:Bool,q=decide (co<0\/(n:Int)<=co\/ho<0\/(n:Int)<=ho\/co=ho\/r=false\/p=0\/6000<sk+p):=⟨_,rfl⟩;have al:(Instr.lookup 91 (.map (some w.heap.size)) (.int .i64 co) false).run Tryz.prog w6=.ok (.int .i64 ((sk+p:Nat):Int)) w6:=d;replace hr:=zh hr;replace hq:=zh hq;clear d;refine Wk kb (w.heap.size+1) co ho lc lh r hr.o w6 u2 u3 u4 u5 ?_;intro u33 u34 u35 u36 u37 u38 u39 u40 u41 u42 u43 u44 u45 u46 u47 u48 u49 u50 u51
    go_upto_region 8 with(fail)
    refine Wl xb kb nb w.heap.size n p (sk+p) co ho r q hq.o w6 aO (by omega) hn u1 u2 u3 n1 al ?_;intro bu bv bw bx bz bA bB bC bD bE bF bG bH bI bJ bK bL bM bN bO bP bQ bR bS bT bU bW bX bY bZ b0 b1 b2 b3 b4 b5 b6 b7 b8 b9 ca;clear u1 u2 u3 u4 u5 n1 al s0 aO a6 i0 i5
    cases q with
    |true=>
     have HG:Hid (EO n l=false):=aw.o fun h=>by
      have h2:=af.o.1 h;have h3:=hq.o;have h4:=zk h3.symm;have h5:=h2.2.2;rw[aj.o]at h5;have h6:=(ag.o h2.1.1.1).1 h2.2.1;have h7:r=true:=by rw[hr.o];exact zH h6
      rw[h7]at h4;obtain⟨⟨d1,d2⟩,⟨d3,d4⟩,d5,d6⟩:=h2.1
      rcases h4 with c|c|c|c|c|c|c|c
      .omega
      .omega
      .omega
      .omega
      .exact d5 c
      .cases c
      .exact d6 c
      omega
     clear hq hr af ag aj aw;go_wp2;go_ret;exact⟨Ak HG.o.symm,aF.o⟩
    |false=>
     have aN:Hid (¬(co<0\/(n:Int)<=co\/ho<0\/(n:Int)<=ho\/co=ho\/r=false\/p=0\/6000<sk+p)):=of_decide_eq_false hq.o.symm
     have a4:Hid (lc<co\/(lc=co/\lh<ho)):=by
      have h:=hr.o
      have h1:r=true:=by
       cases r
       .exact absurd (.inr (.inr (.inr (.inr (.inr (.inl rfl)))))) aN.o
       rfl
      rw[h1]at h;have h9:lc<co\/(lc=co/\lh<ho):=zk h.symm;exact h9
     have HN:Hid (∀i (h:i<l.length),i<k+1->CJ n l i h):=aQ.o (af.o.2 (by
      have h:=aN.o;refine⟨⟨⟨by omega,by omega⟩,⟨by omega,by omega⟩,fun c=>h (.inr (.inr (.inr (.inr (.inl c))))),by omega⟩,(ag.o (by omega)).2 a4.o,by rw[aj.o];omega⟩))
     have bg:Hid (Bk ((w6.setCell ⟨w.heap.size+1,0,none⟩ (.int .i64 co)).setCell ⟨w.heap.size+1,1,none⟩ (.int .i64 ho)) (w.heap.size+1) 93 [.int .i64 (Ee l (k+1)),.int .i64 (EP l (k+1))]):=by rw[ax.o.1,ax.o.2];exact(ad.o.set 0 _).set 1 _
     have bd:Hid (Below w.heap.size w ((w6.setCell ⟨w.heap.size+1,0,none⟩ (.int .i64 co)).setCell ⟨w.heap.size+1,1,none⟩ (.int .i64 ho))):=(aF.o.setCell (p:=⟨w.heap.size+1,0,none⟩) (vS _) _).setCell (p:=⟨w.heap.size+1,1,none⟩) (vS _) _
     have bi:Hid (TN ((w6.setCell ⟨w.heap.size+1,0,none⟩ (.int .i64 co)).setCell ⟨w.heap.size+1,1,none⟩ (.int .i64 ho)) w.heap.size l (k+1)):=by
      obtain⟨c,f,h1,h2⟩:=bh.o;exact⟨c,f,(h1.set (a:=⟨w.heap.size+1,0,none⟩) (yv (zy _)) _).set (a:=⟨w.heap.size+1,1,none⟩) (yv (zy _)) _,h2⟩
     clear hq hr af ag aj aw aN a4 aQ;have u2:=aA.o.c0;have u3:=aA.o.c1;have u4:=ad.o.c0;have u5:=ad.o.c1;have u6:=ad.o.frozen 0;have u7:=ad.o.frozen 1;have br:=a1.o;go_wp2
     go_roundw
     case rel=>exact⟨k+1,by omega,by go_num,bd,bi,bg,HN⟩
     case measure=>simp[intOf];omega)
  obtain rfl:k=l.length:=by omega
  have HG:=zh (be.o fun i h=>hA.o i h h);go_wp2;go_ret;exact⟨Ak HG.o.symm,hB.o⟩
end Ci
end
end Go.Proofs.YtmfjbpcecpgchaaGreatDoor

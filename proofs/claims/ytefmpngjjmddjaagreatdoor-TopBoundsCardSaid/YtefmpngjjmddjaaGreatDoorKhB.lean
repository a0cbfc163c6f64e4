/- Parts of the proof. -/
import Derived.Test.YtefmpngjjmddjaaGreatDoorCards
import Derived.Test.YtefmpngjjmddjaaGreatDoorTie
import Derived.Deep.DeepWitnessRowRef
import Derived.Deep.DeepLaidRun
import Derived.Stop.LaidErr
import Derived.LaidMore
import Derived.WalkLawsBesides
import Derived.WalkSpells
import Derived.StillTailTactics
import Derived.DataShut
import Derived.Test.YtefmpngjjmddjaaGreatDoorKhA
set_option maxHeartbeats 16000000
set_option maxRecDepth 1000000
open Go.Proofs.Tryz
namespace Go.Proofs.YtefmpngjjmddjaaGreatDoor
section
open Go.RowKit Go.Shelf
namespace Nt
theorem C8(f:Nat)(k:Nat)(s t:ByteArray)(w:World)(hs:s.size<=140737488355328)(ht:t.size<=140737488355328)(hb:isN s=false\/isN t=false):
 Calls prog 129 #[.string s,.string t,.func (.func f) #[] #[]] w (C7 k s t w):=by
 have HG:=zh (KA (k:=k) hb);have c1:=By s w (by omega)
 cases h1:isN s with
 |false=>
  rw[h1]at c1;clear hb h1;go_enter func129,ntmps129
  go_wp2_with (go_at_call 128;refine c1.q fun w1 d=>?_)
  go_ret2;exact⟨by rw[HG.o.1,HG.o.2];rfl,d⟩
 |true=>
  have h2:isN t=false:=by rcases hb with h|h;(· rw[h1]at h;cases h);(· exact h)
  rw[h1]at c1;have H2:=zh h2;clear hb h1 h2;go_enter func129,ntmps129
  go_wp2_with fail
  refine c1.q fun w1 d=>?_;replace d:=zh d
  go_wp2_with fail
  have c2:=By t w1 (by omega);rw[H2.o]at c2;refine c2.q fun w2 aa=>?_;replace aa:=zh aa;go_wp2;go_ret2;exact⟨by rw[HG.o.1,HG.o.2];rfl,d.o.trans (aa.o.mono d.o.size)⟩
theorem UR(s t:ByteArray)(w:World)(hE:Env w)(hs:s.size<=140737488355328)(ht:t.size<=140737488355328):
 Calls prog 136 #[.string s,.string t] w (C7 (val s+val t) s t w):=by
 have hc:Calls prog 129 #[.string s,.string t,.func (.func 165) #[] #[]] w (C7 (val s+val t) s t w):=by
  cases h1:isN s with
  |false=>exact C8 _ _ s t w hs ht (.inl h1)
  |true=>
   cases h2:isN t with
   |false=>exact C8 _ _ s t w hs ht (.inr h2)
   |true=>exact PF s t w hE h1 h2
 go_enter func136,ntmps136
 go_wp2_with (go_at_call 129;refine hc.q fun w1 d=>?_)
 go_ret2;exact⟨rfl,d⟩
theorem US(s t:ByteArray)(w:World)(hE:Env w)(hs:s.size<=140737488355328)(ht:t.size<=140737488355328):
 Calls prog 100 #[.string s,.string t] w (C7 (val s*val t) s t w):=by
 have hc:Calls prog 129 #[.string s,.string t,.func (.func 134) #[] #[]] w (C7 (val s*val t) s t w):=by
  cases h1:isN s with
  |false=>exact C8 _ _ s t w hs ht (.inl h1)
  |true=>
   cases h2:isN t with
   |false=>exact C8 _ _ s t w hs ht (.inr h2)
   |true=>exact PH s t w hE h1 h2
 go_enter func100,ntmps100
 go_wp2_with (go_at_call 129;refine hc.q fun w1 d=>?_)
 go_ret2;exact⟨rfl,d⟩
theorem UT(s t:ByteArray)(w:World)(hE:Env w)(hs:s.size<=140737488355328)(ht:t.size<=140737488355328):
 Calls prog 98 #[.string s,.string t] w (C7 (Nat.gcd (val s) (val t)) s t w):=by
 have hc:Calls prog 129 #[.string s,.string t,.func (.func 130) #[] #[]] w (C7 (Nat.gcd (val s) (val t)) s t w):=by
  cases h1:isN s with
  |false=>exact C8 _ _ s t w hs ht (.inl h1)
  |true=>
   cases h2:isN t with
   |false=>exact C8 _ _ s t w hs ht (.inr h2)
   |true=>exact PI s t w hE h1 h2
 go_enter func98,ntmps98
 go_wp2_with (go_at_call 129;refine hc.q fun w1 d=>?_)
 go_ret2;exact⟨rfl,d⟩
def Gc(s t:ByteArray):Int:=if isN s=true/\isN t=true then BF (val s) (val t) else 0
def Ge(s t:ByteArray):Int:=if isN s=true/\isN t=true then 0 else 1
theorem Hf(s t:ByteArray)(w:World)(hE:Env w)(hs:s.size<=140737488355328)(ht:t.size<=140737488355328):
 Calls prog 137 #[.string s,.string t] w fun e w'=>e=.returned (.tuple #[.int .i64 (Gc s t),.int .i64 (Ge s t)])/\Below w.heap.size w w':=by
 have c1:=By s w (by omega);replace hE:=zh hE
 cases h1:isN s with
 |false=>
  have HG:Hid (Gc s t=0/\Ge s t=1):=by unfold Hid Gc Ge;simp[h1]
  rw[h1]at c1;clear h1;go_enter func137,ntmps137
  go_wp2_with (go_at_call 128;refine c1.q fun w1 aa=>?_)
  go_ret2;exact⟨by rw[HG.o.1,HG.o.2];rfl,aa⟩
 |true=>
  cases h2:isN t with
  |false=>
   have HG:Hid (Gc s t=0/\Ge s t=1):=by unfold Hid Gc Ge;simp[h2]
   rw[h1]at c1;have H2:=zh h2;clear h1 h2;go_enter func137,ntmps137
   go_wp2_with fail
   refine c1.q fun w1 aa=>?_;replace aa:=zh aa
   go_wp2_with fail
   have c2:=By t w1 (by omega);rw[H2.o]at c2;refine c2.q fun w2 h=>?_;replace h:=zh h;go_wp2;go_ret2;exact⟨by rw[HG.o.1,HG.o.2];rfl,aa.o.trans (h.o.mono aa.o.size)⟩
  |true=>
   have HG:Hid (Gc s t=BF (val s) (val t)/\Ge s t=0):=by unfold Hid Gc Ge;simp[h1,h2]
   rw[h1]at c1;have H1:=zh h1;have H2:=zh h2;clear h1 h2;go_enter func137,ntmps137
   go_wp2_with fail
   refine c1.q fun w1 aa=>?_;have ad:=zh aa;clear aa
   go_wp2_with fail
   have c2:=By t w1 (by omega);rw[H2.o]at c2;refine c2.q fun w2 h=>?_;have d:=ad.t h;clear h c1 c2 ad
   go_wp2_with fail
   refine(Bo s w2 H1.o).mono ?_;rintro e w3 ⟨v1,rfl,af,_,ah⟩;have ae:=d.t ah;replace af:=zh af;clear ah d
   go_wp2_with fail
   refine(Bo t w3 H2.o).mono ?_;rintro e w4 ⟨v2,rfl,ag,_,h⟩;have d:=ae.t h;replace h:=zh h;replace ag:=zh ag;clear ae
   go_wp2_with fail
   refine(EL w4 v1 v2 (val s) (val t) (af.o.below h.o) ag.o (B6 (B5 H1.o)) (by have:=d.o.size;have:=hE.o.pos;omega)).q fun w5 ai=>?_;have aj:=d.t ai;clear ai d h af ag;go_wp2;go_ret2;exact⟨by rw[HG.o.1,HG.o.2];rfl,aj.o⟩
def Jn(s t:ByteArray):ByteArray:=if isN s=true/\isN t=true/\val t<=val s then num (val s-val t) else ⟨#[]⟩
def Jo(s t:ByteArray):Int:=if isN s=true/\isN t=true then (if val t<=val s then 0 else 10) else 1
theorem UU(s t:ByteArray)(w:World)(hE:Env w)(hs:s.size<=140737488355328)(ht:t.size<=140737488355328):
 Calls prog 138 #[.string s,.string t] w fun e w'=>e=.returned (.tuple #[.string (Jn s t),.int .i64 (Jo s t)])/\Below w.heap.size w w':=by
 have cc:=Hf s t w hE hs ht
 by_cases hg:isN s=true/\isN t=true
 .have e1:Gc s t=BF (val s) (val t):=by unfold Gc;rw[zF hg]
  have e2:Ge s t=0:=by unfold Ge;rw[zF hg]
  rw[e1,e2]at cc
  by_cases hle:val t<=val s
  .have HG:Hid (Jn s t=K8 (val s-val t)/\Jo s t=K9 (val s-val t)):=by
    have:=B5 hg.1;unfold Hid Jn Jo K8 K9;rw[zF ⟨hg.1,hg.2,hle⟩,zF hg,zF hle,zF (by omega),zF (by omega)];exact⟨rfl,rfl⟩
   have hc:¬BF (val s) (val t)<0:=by unfold BF;rw[zE (by omega)];split<;>omega
   have HO:=zh (Fj (k:=val s-val t) hg.1 hg.2);have ha:Hid (∀w1,Env w1->Calls prog 129 #[.string s,.string t,.func (.func 159) #[] #[]] w1 (C7 (val s-val t) s t w1)):=fun w1 h=>PG s t w1 h hg.1 hg.2 hle;replace hE:=zh hE;generalize BF (val s) (val t)=c at cc hc;clear e1 e2 hg hle;go_enter func138,ntmps138
   go_wp2_with (first
    |(go_at_call 137;refine cc.q fun w1 d=>?_;replace d:=zh d)
    |(go_at_call 129;refine(ha.o _ (by exact hE.o.below d.o)).q fun w2 aa=>?_;replace aa:=zh aa))
   go_ret2;exact⟨by rw[HG.o.1,HG.o.2];exact congrArg Ending.returned (by simp[HO.o.1,HO.o.2]),d.o.trans (aa.o.mono d.o.size)⟩
  have HG:Hid (Jn s t=⟨#[]⟩/\Jo s t=10):=by
   unfold Hid Jn Jo;rw[zE (fun h=>hle h.2.2),zF hg,zE hle];exact⟨rfl,rfl⟩
  rw[Ew (by omega)]at cc;replace hE:=zh hE;clear e1 e2 hg hle;go_enter func138,ntmps138
  go_wp2_with (go_at_call 137;refine cc.q fun w1 d=>?_;replace d:=zh d)
  go_ret2;exact⟨by rw[HG.o.1,HG.o.2];rfl,d.o⟩
 have e1:Gc s t=0:=by unfold Gc;rw[zE hg]
 have e2:Ge s t=1:=by unfold Ge;rw[zE hg]
 rw[e1,e2]at cc
 have ad:isN s=false\/isN t=false:=by
  cases h1:isN s with
  |false=>exact .inl rfl
  |true=>right;cases h2:isN t with
   |false=>rfl
   |true=>exact absurd ⟨h1,h2⟩ hg
 have HG:Hid (Jn s t=⟨#[]⟩/\Jo s t=1):=by
  unfold Hid Jn Jo;rw[zE (fun h=>hg ⟨h.1,h.2.1⟩),zE hg];exact⟨rfl,rfl⟩
 have HO:=zh (KA (k:=0) ad);have ha:Hid (∀w1,Calls prog 129 #[.string s,.string t,.func (.func 159) #[] #[]] w1 (C7 0 s t w1)):=fun w1=>C8 _ _ s t w1 hs ht ad;replace hE:=zh hE;clear e1 e2 hg ad;go_enter func138,ntmps138
 go_wp2_with (first
  |(go_at_call 137;refine cc.q fun w1 d=>?_;replace d:=zh d)
  |(go_at_call 129;refine(ha.o _).q fun w2 aa=>?_;replace aa:=zh aa))
 go_ret2;exact⟨by rw[HG.o.1,HG.o.2];exact congrArg Ending.returned (by simp[HO.o.1,HO.o.2]),d.o.trans (aa.o.mono d.o.size)⟩
def Hz(s t:ByteArray):ByteArray:=if isN s=true/\isN t=true/\val t≠0 then num (val s/val t) else ⟨#[]⟩
def H0(s t:ByteArray):ByteArray:=if isN s=true/\isN t=true/\val t≠0 then num (val s%val t) else ⟨#[]⟩
def H4(s t:ByteArray):Int:=if isN s=true/\isN t=true then (if val t=0 then 15 else 0) else 1
def UV(s t:ByteArray)(w:World)(e:Ending)(w':World):Prop:=e=.returned (.tuple #[.string (Hz s t),.string (H0 s t),.int .i64 (H4 s t)])/\Below w.heap.size w w'
theorem LC{t:ByteArray}(h:isN t=true):t.toList=[48]<->val t=0:=by
 obtain⟨n,_,rfl⟩:=Ch h;rw[Bi,ya];constructor
 .intro e;have h:=Bi n;unfold val at h;rw[e]at h;rw[<-h];rfl
 intro e;subst e
 show Lib.decDigits 0=[48]
 rw[vk (by omega)];rfl
theorem UW(s t:ByteArray)(w:World)(hE:Env w)(hs:s.size<=140737488355328)(ht:t.size<=140737488355328):
 Calls prog 99 #[.string s,.string t] w (UV s t w):=by
 have c1:=By s w (by omega);replace hE:=zh hE
 cases h1:isN s with
 |false=>
  have HG:Hid (Hz s t=⟨#[]⟩/\H0 s t=⟨#[]⟩/\H4 s t=1):=by unfold Hid Hz H0 H4;simp[h1]
  rw[h1]at c1;clear h1;go_enter func99,ntmps99
  go_wp2_with (go_at_call 128;refine c1.q fun w1 aa=>?_)
  go_ret3
  exact⟨by rw[HG.o.1,HG.o.2.1,HG.o.2.2];rfl,aa⟩
 |true=>
  cases h2:isN t with
  |false=>
   have HG:Hid (Hz s t=⟨#[]⟩/\H0 s t=⟨#[]⟩/\H4 s t=1):=by unfold Hid Hz H0 H4;simp[h2]
   rw[h1]at c1;have H2:=zh h2;clear h1 h2;go_enter func99,ntmps99
   go_wp2_with fail
   refine c1.q fun w1 aa=>?_;replace aa:=zh aa
   go_wp2_with fail
   have c2:=By t w1 (by omega);rw[H2.o]at c2;refine c2.q fun w2 d=>?_;replace d:=zh d;go_wp2
   go_ret3
   exact⟨by rw[HG.o.1,HG.o.2.1,HG.o.2.2];rfl,aa.o.trans (d.o.mono aa.o.size)⟩
  |true=>
   rw[h1]at c1;have H1:=zh h1;have H2:=zh h2
   by_cases hz:val t=0
   .have HG:Hid (Hz s t=⟨#[]⟩/\H0 s t=⟨#[]⟩/\H4 s t=15):=by unfold Hid Hz H0 H4;simp[h1,h2,hz]
    have hb:(t.toList==[48])=true:=by rw[xQ];exact(LC h2).2 hz
    clear h1 h2 hz;go_enter func99,ntmps99
    go_wp2_with fail
    refine c1.q fun w1 aa=>?_;replace aa:=zh aa
    go_wp2_with fail
    have c2:=By t w1 (by omega);rw[H2.o]at c2;refine c2.q fun w2 d=>?_;replace d:=zh d;go_wp2
    go_ret3
    exact⟨by rw[HG.o.1,HG.o.2.1,HG.o.2.2];rfl,aa.o.trans (d.o.mono aa.o.size)⟩
   have hq:val s/val t<Lim:=zn (wF _ _) (B5 h1);have hr:val s%val t<Lim:=zn (Nat.mod_le _ _) (B5 h1);have HG:Hid (Hz s t=num (val s/val t)/\H0 s t=num (val s%val t)/\H4 s t=0):=by unfold Hid Hz H0 H4;simp[h1,h2,hz]
   have HL:Hid (Da (Lib.decDigits (val s/val t))=.tuple #[.string (num (val s/val t)),.int .i64 0]/\Da (Lib.decDigits (val s%val t))=.tuple #[.string (num (val s%val t)),.int .i64 0]):=by
    unfold Hid;rw[C6,C6];unfold K8 K9;rw[zF hq,zF hr,zF hq,zF hr];exact⟨rfl,rfl⟩
   have hb:(t.toList==[48])=false:=by rw[zN];exact fun h=>hz ((LC h2).1 h)
   replace hz:=zh hz;replace hq:=zh hq;replace hr:=zh hr;clear h1 h2;go_enter func99,ntmps99
   go_wp2_with fail
   refine c1.q fun w1 aa=>?_;have ah:=zh aa;clear aa
   go_wp2_with fail
   have c2:=By t w1 (by omega);rw[H2.o]at c2;refine c2.q fun w2 d=>?_;have ad:=ah.t d;clear d c1 c2 ah
   go_wp2_with fail
   refine(Bo s w2 H1.o).mono ?_;rintro e w3 ⟨v1,rfl,aj,_,an⟩;have ai:=ad.t an;replace aj:=zh aj;clear an ad
   go_wp2_with fail
   refine(Bo t w3 H2.o).mono ?_;rintro e w4 ⟨v2,rfl,ak,_,d⟩;have ad:=ai.t d;replace d:=zh d;replace ak:=zh ak;clear ai
   go_wp2_with fail
   refine(OG w4 v1 v2 (val s) (val t) (aj.o.below d.o) ak.o (B6 (B5 H1.o)) (Nc (B5 H2.o)) (Nat.pos_of_ne_zero hz.o) (by have:=ad.o.size;have:=hE.o.pos;omega)).mono ?_;rintro e w5 ⟨⟨q,r,rfl,al,am⟩,ao⟩;have ae:=ad.t ao;replace al:=zh al;replace am:=zh am;clear ao ad d aj ak
   go_wp2_with fail
   refine(Ea w5 q _ al.o (B6 hq.o) (hE.o.below ae.o)).q fun w6 ag=>?_;rw[HL.o.1];have af:=ae.t ag;replace ag:=zh ag;clear ae
   go_wp2_with fail
   refine(Ea w6 r _ (am.o.below ag.o) (B6 hr.o) (hE.o.below af.o)).q fun w7 ap=>?_;rw[HL.o.2];have aq:=af.t ap;clear ap ag af;go_wp2
   go_ret3
   exact⟨by rw[HG.o.1,HG.o.2.1,HG.o.2.2];rfl,aq.o⟩
theorem UX:∀(l:List UInt8)(a:Nat),(∀c∈l,CM c)->a<18446744073709551616->Lib.parseUint10 a l=if a*10^l.length+AN l<18446744073709551616 then .ok (a*10^l.length+AN l) else .range:=by
 intro l
 induction l with
 |nil=>
  intro a _ ha;simp only[Lib.parseUint10,yR,Nat.pow_zero,Nat.mul_one,Ga,xM];rw[zF ha]
 |cons c l ih=>
  intro a h ha;have h1:=h c (by simp);have hp:1<=10^l.length:=wC (by omega)
  have e:a*10^(c::l).length+AN (c::l)=(a*10+(c.toNat-48))*10^l.length+AN l:=by
   rw[DY,zZ,yy,yo,yw a 10,yT 10];omega
  rw[e];have aa:a*10+(c.toNat-48)<=(a*10+(c.toNat-48))*10^l.length:=wn _ hp;rw[Lib.parseUint10,zF (show 48<=c.toNat/\c.toNat<=57 from h1)]
  by_cases c1:1844674407370955162<=a
  .rw[zF c1,zE (by omega)]
  rw[zE c1]
  by_cases c2:18446744073709551616<=a*10+(c.toNat-48)
  .rw[zF c2,zE (by omega)]
  rw[zE c2];exact ih _ (fun d hd=>h d (by simp[hd])) (by omega)
theorem Sa(n:Nat):Lib.atoiAll (num n).data.toList=if n<=9223372036854775807 then .ok (n:Int) else .range:=by
 have hd:=BG n;have hv:=AJ n
 show Lib.atoiAll (Lib.decDigits n)=_
 cases hl:Lib.decDigits n with
 |nil=>exact absurd hl (BE n)
 |cons c r=>
  rw[hl]at hd hv;have h1:=hd c (by simp);have h2:=h1.1;have hp:=UX (c::r) 0 hd (by omega);rw[wA,yS,hv]at hp;unfold Lib.atoiAll;simp only[Lib.parseMag];have d:¬c.toNat=45:=by omega
  have h:¬(c.toNat=43\/c.toNat=45):=by omega
  rw[zE h,zE (by simp),hp]
  by_cases hle:n<=9223372036854775807
  .rw[zF (by omega),zF hle];simp only[d];rw[zE (by omega),zE (by simp),zE (by simp)]
  rw[zE hle]
  by_cases h64:n<18446744073709551616
  .rw[zF h64];simp only[d];rw[zF ⟨by simp,by omega⟩]
  rw[zE h64]
theorem OI(l:List UInt8)(n:Nat)(h:UM l=true)(hv:AN l=n):num n=⟨l.toArray⟩:=by
 have:=OH (s:=⟨l.toArray⟩) h;rw[<-this];exact congrArg num hv.symm
def T:Option Nat->ByteArray|some n=>num n|none=>⟨#[]⟩
def Ok(x:Option Nat):Prop:=∀n,x=some n->n<Lim
def KB(k:Nat):Option Nat:=if k<Lim then some k else none
def apO(f:Nat->Nat->Nat):Option Nat->Option Nat->Option Nat|some a,some b=>KB (f a b)|_,_=>none
def apE(f:Nat->Nat->Nat):Option Nat->Option Nat->Int|some a,some b=>if f a b<Lim then 0 else 2|_,_=>1
def WI(x y:Option Nat):Option Nat:=apO (·+·) x y
def WJ(x y:Option Nat):Int:=apE (·+·) x y
def Sb(x y:Option Nat):Option Nat:=apO (·*·) x y
def Sc(x y:Option Nat):Int:=apE (·*·) x y
def Nf(x y:Option Nat):Option Nat:=apO Nat.gcd x y
def Ng(x y:Option Nat):Int:=apE Nat.gcd x y
def UY:Option Nat->Option Nat->Option Nat|some a,some b=>if b<=a then some (a-b) else none|_,_=>none
def UZ:Option Nat->Option Nat->Int|some a,some b=>if b<=a then 0 else 10|_,_=>1
def PJ:Option Nat->Option Nat->Option Nat|some a,some b=>if b=0 then none else some (a/b)|_,_=>none
def XR:Option Nat->Option Nat->Option Nat|some a,some b=>if b=0 then none else some (a%b)|_,_=>none
def PK:Option Nat->Option Nat->Int|some _,some b=>if b=0 then 15 else 0|_,_=>1
def Sd:Option Nat->Option Nat->Int|some a,some b=>BF a b|_,_=>0
def Va:Option Nat->Option Nat->Int|some _,some _=>0|_,_=>1
theorem As{n:Nat}(h:n<Lim):Ok (some n):=fun _ e=>by cases e;exact h
theorem FA{x:Option Nat}(h:Ok x):isN (T x)=x.isSome:=by
 cases x with
 |none=>rfl
 |some n=>exact K0 (h n rfl)
theorem C9{x:Option Nat}(h:Ok x):(T x).size<=140737488355328:=by
 cases x with
 |none=>exact zS _
 |some n=>
  have h1:isN (T (some n))=true:=FA h;have h2:=((DZ _).1 h1).2.1;have h3:(T (some n)).size=(T (some n)).data.toList.length:=wv _;omega
theorem PM(x:Option Nat)(h:Ok x)(w:World):Calls prog 128 #[.string (T x)] w fun e w'=>e=.returned (.bool x.isSome)/\Below w.heap.size w w':=by
 have:=By (T x) w (by have:=C9 h;omega)
 rwa [FA h]at this
theorem Sf(f:Nat->Nat->Nat){x y:Option Nat}(hx:Ok x)(hy:Ok y):opS (f (val (T x)) (val (T y))) (T x) (T y)=T (apO f x y)/\opE (f (val (T x)) (val (T y))) (T x) (T y)=apE f x y:=by
 cases x with
 |none=>exact KA (.inl rfl)
 |some a=>
  cases y with
  |none=>exact KA (.inr rfl)
  |some b=>
   have h:=Fj (k:=f (val (T (some a))) (val (T (some b)))) (FA hx) (FA hy);have ha:val (T (some a))=a:=Bi a;have hb:val (T (some b))=b:=Bi b;rw[ha,hb]at h ⊢;rw[h.1,h.2]
   show K8 (f a b)=T (KB (f a b))/\K9 (f a b)=if f a b<Lim then 0 else 2
   unfold KB K8 K9
   by_cases hl:f a b<Lim
   .rw[zF hl,zF hl,zF hl];exact⟨rfl,rfl⟩
   rw[zE hl,zE hl,zE hl];exact⟨rfl,rfl⟩
theorem YF(x y:Option Nat)(w:World)(hE:Env w)(hx:Ok x)(hy:Ok y):Calls prog 136 #[.string (T x),.string (T y)] w fun e w'=>e=.returned (.tuple #[.string (T (WI x y)),.int .i64 (WJ x y)])/\Below w.heap.size w w':=by
 refine(UR (T x) (T y) w hE (C9 hx) (C9 hy)).q fun w' hb=>?_;have:=Sf (·+·) hx hy;exact⟨by rw[this.1,this.2];rfl,hb⟩
theorem XS(x y:Option Nat)(w:World)(hE:Env w)(hx:Ok x)(hy:Ok y):Calls prog 100 #[.string (T x),.string (T y)] w fun e w'=>e=.returned (.tuple #[.string (T (Sb x y)),.int .i64 (Sc x y)])/\Below w.heap.size w w':=by
 refine(US (T x) (T y) w hE (C9 hx) (C9 hy)).q fun w' hb=>?_;have:=Sf (·*·) hx hy;exact⟨by rw[this.1,this.2];rfl,hb⟩
theorem Sg(x y:Option Nat)(w:World)(hE:Env w)(hx:Ok x)(hy:Ok y):Calls prog 98 #[.string (T x),.string (T y)] w fun e w'=>e=.returned (.tuple #[.string (T (Nf x y)),.int .i64 (Ng x y)])/\Below w.heap.size w w':=by
 refine(UT (T x) (T y) w hE (C9 hx) (C9 hy)).q fun w' hb=>?_;have:=Sf Nat.gcd hx hy;exact⟨by rw[this.1,this.2];rfl,hb⟩
theorem XT(x y:Option Nat)(w:World)(hE:Env w)(hx:Ok x)(hy:Ok y):Calls prog 138 #[.string (T x),.string (T y)] w fun e w'=>e=.returned (.tuple #[.string (T (UY x y)),.int .i64 (UZ x y)])/\Below w.heap.size w w':=by
 refine(UU (T x) (T y) w hE (C9 hx) (C9 hy)).q fun w' hb=>?_;refine⟨?_,hb⟩;have h1:=FA hx;have h2:=FA hy
 cases x with
 |none=>unfold Jn Jo;rw[h1];rfl
 |some a=>
  cases y with
  |none=>unfold Jn Jo;rw[h2];simp;exact⟨rfl,rfl⟩
  |some b=>
   have ha:val (T (some a))=a:=Bi a;have hb:val (T (some b))=b:=Bi b;unfold Jn Jo UY UZ;rw[h1,h2,ha,hb]
   by_cases h:b<=a
   .simp[h,T]
   simp[h,T]
theorem Nh(x y:Option Nat)(w:World)(hE:Env w)(hx:Ok x)(hy:Ok y):Calls prog 99 #[.string (T x),.string (T y)] w fun e w'=>e=.returned (.tuple #[.string (T (PJ x y)),.string (T (XR x y)),.int .i64 (PK x y)])/\Below w.heap.size w w':=by
 refine(UW (T x) (T y) w hE (C9 hx) (C9 hy)).q fun w' hb=>?_;refine⟨?_,hb⟩;have h1:=FA hx;have h2:=FA hy
 cases x with
 |none=>unfold Hz H0 H4;rw[h1];rfl
 |some a=>
  cases y with
  |none=>unfold Hz H0 H4;rw[h2];simp;exact⟨rfl,rfl,rfl⟩
  |some b=>
   have ha:val (T (some a))=a:=Bi a;have hb:val (T (some b))=b:=Bi b;unfold Hz H0 H4 PJ XR PK;rw[h1,h2,ha,hb]
   by_cases h:b=0
   .simp[h,T]
   simp[h,T]
theorem XU(x y:Option Nat)(w:World)(hE:Env w)(hx:Ok x)(hy:Ok y):Calls prog 137 #[.string (T x),.string (T y)] w fun e w'=>e=.returned (.tuple #[.int .i64 (Sd x y),.int .i64 (Va x y)])/\Below w.heap.size w w':=by
 refine(Hf (T x) (T y) w hE (C9 hx) (C9 hy)).q fun w' hb=>?_;refine⟨?_,hb⟩;have h1:=FA hx;have h2:=FA hy
 cases x with
 |none=>unfold Gc Ge;rw[h1];rfl
 |some a=>
  cases y with
  |none=>unfold Gc Ge;rw[h2];simp;exact⟨rfl,rfl⟩
  |some b=>
   have ha:val (T (some a))=a:=Bi a;have hb:val (T (some b))=b:=Bi b;unfold Gc Ge Sd Va;rw[h1,h2,ha,hb];simp
theorem Si:T (some 0)=⟨#[48]⟩:=OI [48] 0 (by decide) (by decide)
theorem Sj:(T (some 0)).toList=[48]:=by rw[Si,ya]
theorem Gf{a b:Nat}(ha:a<Lim)(hb:b<Lim):Nat.gcd a b<Lim:=by
 rcases xe a with rfl|h
 .rwa [Nat.gcd_zero_left]
 exact zn (Nat.gcd_le_left b h) ha
theorem Wo:T (some 1)=⟨#[49]⟩:=OI [49] 1 (by decide) (by decide)
def sg(g:Bool)(a:Nat):Int:=if g then -(a:Int) else a
theorem BH(g:Bool)(a:Nat):(sg g a).natAbs=a:=by cases g<;>simp[sg]
theorem Sk(g:Bool)(a:Nat):decide (sg g a<0)=(g&&!decide (a=0)):=by
 rw[xp]
 cases g
 .simp[sg]
 simp[sg];omega
theorem Cg(z:Int):sg (decide (z<0)) z.natAbs=z:=by
 unfold sg
 by_cases h:z<0
 .simp[h];omega
 simp[h];omega
theorem Sm(g h:Bool)(a b:Nat):sg g a*sg h b=sg (g != h) (a*b):=by
 cases g<;>cases h<;>simp[sg,Int.neg_mul,Int.mul_neg]
theorem Ni(g:Bool)(a b:Nat)(hb:b≠0):(mkRat (sg g a) b).num=sg g (a/Nat.gcd a b):=by
 rw[Rat.num_mkRat,zE hb,BH,Nat.gcd_comm]
 cases g
 .simp[sg]
 simp only[sg,vG];rw[Int.neg_ediv_of_dvd (Int.ofNat_dvd.2 (qA a b)),vz]
theorem Nj(g:Bool)(a b:Nat)(hb:b≠0):(mkRat (sg g a) b).den=b/Nat.gcd a b:=by
 rw[Rat.den_mkRat,zE hb,BH,Nat.gcd_comm]
def qv(q:Rat):Value:=.agg #[.bool (decide (q.num<0)),.string (T (some q.num.natAbs)),.string (T (some q.den))]
def zv:Value:=.agg #[.bool false,.string ⟨#[]⟩,.string ⟨#[]⟩]
def OkQ(q:Rat):Prop:=q.num.natAbs<Lim/\q.den<Lim
theorem XV(g:Bool)(a b:Nat)(hb:b≠0):qv (mkRat (sg g a) b)=.agg #[.bool (g&&!decide (a/Nat.gcd a b=0)),.string (T (some (a/Nat.gcd a b))),.string (T (some (b/Nat.gcd a b)))]:=by
 unfold qv;rw[Ni g a b hb,Nj g a b hb,Sk,BH]
def A4(g:Bool)(n d:ByteArray):Bool :=
 isN n&&(isN d&&(!decide (val d=0)&&(if val n=0 then !g&&decide (val d=1) else decide (Nat.gcd (val n) (val d)=1))))
theorem GD(g:Bool)(a b:Nat)(ha:a<Lim)(hb:b<Lim):A4 g (num a) (num b)=(!decide (b=0)&&(if a=0 then !g&&decide (b=1) else decide (Nat.gcd a b=1))):=by
 unfold A4;rw[K0 ha,K0 hb,Bi,Bi,wg,wg]
theorem AO{q:Rat}(h:OkQ q):A4 (decide (q.num<0)) (T (some q.num.natAbs)) (T (some q.den))=true:=by
 show A4 _ (num _) (num _)=true
 rw[GD _ _ _ h.1 h.2];have hd:=q.den_nz;have hr:Nat.gcd q.num.natAbs q.den=1:=q.reduced
 by_cases h0:q.num.natAbs=0
 .rw[h0,Nat.gcd_zero_left]at hr;have:¬q.num<0:=by omega
  simp[h0,hr,this]
 simp[h0,hd,hr]
theorem Ip{g:Bool}{n d:ByteArray}(h:A4 g n d=true):∃q:Rat,OkQ q/\g=decide (q.num<0)/\n=T (some q.num.natAbs)/\d=T (some q.den):=by
 have h1:isN n=true:=by unfold A4 at h;simp only[zr]at h;exact h.1
 have h2:isN d=true:=by unfold A4 at h;simp only[zr]at h;exact h.2.1
 obtain⟨a,ha,rfl⟩:=Ch h1;obtain⟨b,hb,rfl⟩:=Ch h2;rw[GD g a b ha hb]at h;simp only[zr,Bool.not_eq_true',zM]at h;obtain⟨ad,h3⟩:=h
 have aa:Nat.gcd a b=1:=by
  by_cases h0:a=0
  .rw[zF h0]at h3;simp at h3;rw[h0,h3.2];rfl
  rw[zE h0]at h3
  simpa using h3
 have hg:g=decide (sg g a<0):=by
  rw[Sk]
  by_cases h0:a=0
  .rw[zF h0]at h3;simp at h3;rw[h3.1];rfl
  simp[h0]
 refine⟨⟨sg g a,b,ad,by rw[BH];exact aa⟩,⟨by show (sg g a).natAbs<Lim;rw[BH];exact ha,hb⟩,hg,?_,rfl⟩
 show num a=num (sg g a).natAbs
 rw[BH]
@[irreducible] def mx1:Nat:=140
theorem DQ:mx1=140:=by unfold mx1;rfl
def L1:Nat:=10^mx1
theorem HW(n:Nat):(num n).size<=140<->n<L1:=by
 have:=Cn n mx1 (by rw[DQ];omega);have e:(num n).size=(Lib.decDigits n).length:=by simp[num,ByteArray.size]
 rw[e,<-DQ];exact this
theorem WK:1<=L1:=wC (by omega)
theorem J6:2*(L1*L1)<Lim:=by
 have e:L1*L1=10^(mx1+mx1):=by unfold L1;rw[xu]
 have h:10^(mx1+mx1+1)<=Lim:=by
  unfold Lim;exact zj (by omega) (by rw[DQ,Et];omega)
 rw[yy]at h;rw[e];have h2:0<10^(mx1+mx1):=wC (by omega);omega
theorem CA{a b:Nat}(ha:a<L1)(hb:b<L1):a*b<L1*L1:=xx ha hb
theorem AG{a:Nat}(h:a<L1):a<Lim:=by
 have h1:=J6;have h2:=WK;have h3:L1*1<=L1*L1:=yr _ h2;omega
def ShortQ(q:Rat):Prop:=q.num.natAbs<L1/\q.den<L1
instance (q:Rat):Decidable (ShortQ q):=inferInstanceAs (Decidable (_/\_))
theorem ShortQ.ok{q:Rat}(h:ShortQ q):OkQ q:=⟨AG h.1,AG h.2⟩
theorem KC(p q:Rat):mkRat (p.num*q.den+q.num*p.den) (p.den*q.den)=p+q:=(Rat.add_def' p q).symm
theorem Sn{g:Bool}{x y:Nat}{p q:Rat}(hp:g=decide (p.num<0))(hq:g=decide (q.num<0))(hx:x=p.num.natAbs*q.den)(hy:y=q.num.natAbs*p.den):
 sg g (x+y)=p.num*q.den+q.num*p.den:=by
 rw[<-Cg p.num,<-Cg q.num,<-hp,<-hq,hx,hy]
 cases g
 .simp[sg]
 simp only[sg,vG,xH,xU,Int.neg_mul];omega
theorem So{g h:Bool}{x y:Nat}{p q:Rat}(hp:g=decide (p.num<0))(hq:h=decide (q.num<0))(hx:x=p.num.natAbs*q.den)(hy:y=q.num.natAbs*p.den)(d:g≠h)(hl:x<y):
 sg h (y-x)=p.num*q.den+q.num*p.den:=by
 rw[<-Cg p.num,<-Cg q.num,<-hp,<-hq];have e1:(x:Int)=(p.num.natAbs:Int)*(q.den:Int):=by rw[hx,xU]
 have e2:(y:Int)=(q.num.natAbs:Int)*(p.den:Int):=by rw[hy,xU]
 cases g<;>cases h<;>simp only[sg,vG,Bool.false_eq_true,if_false,Int.neg_mul,ne_eq,not_true_eq_false]at d ⊢
 all_goals omega
theorem Sp{g h:Bool}{x y:Nat}{p q:Rat}(hp:g=decide (p.num<0))(hq:h=decide (q.num<0))(hx:x=p.num.natAbs*q.den)(hy:y=q.num.natAbs*p.den)(d:g≠h)(hl:y<=x):
 sg g (x-y)=p.num*q.den+q.num*p.den:=by
 rw[<-Cg p.num,<-Cg q.num,<-hp,<-hq];have e1:(x:Int)=(p.num.natAbs:Int)*(q.den:Int):=by rw[hx,xU]
 have e2:(y:Int)=(q.num.natAbs:Int)*(p.den:Int):=by rw[hy,xU]
 cases g<;>cases h<;>simp only[sg,vG,Bool.false_eq_true,if_false,Int.neg_mul,ne_eq,not_true_eq_false]at d ⊢
 all_goals omega
theorem WL(p q:Rat):mkRat (sg (decide (p.num<0) != decide (q.num<0)) (p.num.natAbs*q.num.natAbs)) (p.den*q.den)=p*q:=by
 rw[<-Sm,Cg,Cg,Rat.mul_def']
theorem Sq(p q:Rat):mkRat (sg (decide (p.num<0) != decide (q.num<0)) (p.num.natAbs*q.den)) (p.den*q.num.natAbs)=p/q:=by
 have hi:q⁻¹=mkRat (sg (decide (q.num<0)) q.den) q.num.natAbs:=by
  rw[Rat.inv_def];unfold sg
  by_cases hn:q.num<0
  .have e:q.num=-((q.num.natAbs:Nat):Int):=by omega
   rw[zG hn,zF rfl]
   conv=>lhs;rw[e]
   rw[Rat.divInt_neg',Rat.divInt_ofNat]
  have e:q.num=((q.num.natAbs:Nat):Int):=by omega
  rw[zH hn]
  conv=>lhs;rw[e]
  rw[Rat.divInt_ofNat];rfl
 have hp:p=mkRat (sg (decide (p.num<0)) p.num.natAbs) p.den:=by rw[Cg,Rat.mkRat_self]
 show _=p*q⁻¹
 rw[hi]
 conv=>rhs;rw[hp]
 rw[Rat.mkRat_mul_mkRat,Sm]
end Nt
end
section
open Go.RowKit Go.Shelf
namespace Ci
open Nt
abbrev Lk:=Int×Int×Bool×ByteArray×ByteArray
def lkL(x:Lk):List Value:=[.int .i64 x.1,.int .i64 x.2.1,.bool x.2.2.1,.string x.2.2.2.1,.string x.2.2.2.2]
def InLk(W:World)(A:Option Addr)(l:List Lk):Prop :=
 0<l.length->∃b off,A=some ⟨b,off,none⟩/\b<W.heap.size/\∀j (h:j<l.length),W.cell? ⟨b,off+j*5,none⟩=some (.int .i64 l[j].1)/\W.cell? ⟨b,off+j*5+1,none⟩=some (.int .i64 l[j].2.1) /\
  W.cell? ⟨b,off+j*5+2,none⟩=some (.bool l[j].2.2.1)/\W.cell? ⟨b,off+j*5+3,none⟩=some (.string l[j].2.2.2.1)/\W.cell? ⟨b,off+j*5+4,none⟩=some (.string l[j].2.2.2.2)
def InStr(W:World)(A:Option Addr)(l:List ByteArray):Prop :=
 0<l.length->∃b off,A=some ⟨b,off,none⟩/\b<W.heap.size/\∀j (h:j<l.length),W.cell? ⟨b,off+j,none⟩=some (.string l[j])
def InInt(W:World)(A:Option Addr)(l:List Int):Prop :=
 0<l.length->∃b off,A=some ⟨b,off,none⟩/\b<W.heap.size/\∀j (h:j<l.length),W.cell? ⟨b,off+j,none⟩=some (.int .i64 l[j])
theorem InLk.below{W W':World}{A:Option Addr}{l:List Lk}(h:InLk W A l)(hb:Below W.heap.size W W'):InLk W' A l:=fun h0=>by
 obtain⟨b,off,e,hl,hc⟩:=h h0;refine⟨b,off,e,zJ hl hb.size,fun j hj=>?_⟩;obtain⟨c1,c2,c3,c4,c5⟩:=hc j hj;exact⟨(hb.cell (p:=⟨b,_,none⟩) hl).trans c1,(hb.cell (p:=⟨b,_,none⟩) hl).trans c2,(hb.cell (p:=⟨b,_,none⟩) hl).trans c3,(hb.cell (p:=⟨b,_,none⟩) hl).trans c4,(hb.cell (p:=⟨b,_,none⟩) hl).trans c5⟩
theorem InStr.below{W W':World}{A:Option Addr}{l:List ByteArray}(h:InStr W A l)(hb:Below W.heap.size W W'):InStr W' A l:=fun h0=>by
 obtain⟨b,off,e,hl,hc⟩:=h h0;exact⟨b,off,e,zJ hl hb.size,fun j hj=>(hb.cell (p:=⟨b,_,none⟩) hl).trans (hc j hj)⟩
theorem InInt.below{W W':World}{A:Option Addr}{l:List Int}(h:InInt W A l)(hb:Below W.heap.size W W'):InInt W' A l:=fun h0=>by
 obtain⟨b,off,e,hl,hc⟩:=h h0;exact⟨b,off,e,zJ hl hb.size,fun j hj=>(hb.cell (p:=⟨b,_,none⟩) hl).trans (hc j hj)⟩
def Bc(i c:Nat):Prop:=(97<=c/\c<=122)\/(65<=c/\c<=90)\/(i≠0/\(c=95\/(48<=c/\c<=57)))
instance (i c:Nat):Decidable (Bc i c):=inferInstanceAs (Decidable (_\/_))
def An(s:ByteArray):Bool:=decide (∀i (h:i<s.size),Bc i s[i].toNat)&&(decide (0<s.size)&&decide (s.size<=24))
theorem J7{s:ByteArray}{i:Nat}(h:i<s.size)(hb:¬Bc i s[i].toNat):An s=false:=by
 unfold An;rw[zH fun hc=>hb (hc i h)];rfl
theorem J8{s:ByteArray}(h:∀i (h:i<s.size),Bc i s[i].toNat):An s=(decide (0<s.size)&&decide (s.size<=24)):=by
 unfold An;rw[zG h];rfl
abbrev Rw:=Bool×ByteArray×ByteArray
def unitsN(x:Rw):Nat :=
 if A4 x.1 x.2.1 x.2.2=false\/x.1=true\/4<x.2.1.size\/4<x.2.2.size then 0
 else if val x.2.2<val x.2.1\/6000%val x.2.2≠0 then 0 else val x.2.1*(6000/val x.2.2)
theorem Iq(x:Rw):unitsN x<=6000:=by
 unfold unitsN
 split
 .omega
 split
 .omega
 rename_i h;have h1:val x.2.1<=val x.2.2:=by omega
 exact zQ (xB _ h1) (Nat.mul_div_le _ _)
def lkP(x:Lk):Rw:=(x.2.2.1,x.2.2.2.1,x.2.2.2.2)
def sumU(l:List Lk)(c:Int):Nat:=((l.filter fun x=>decide (x.1=c)).map fun x=>unitsN (lkP x)).sum
def Rise(a b:Lk):Prop:=a.1<b.1\/(a.1=b.1/\a.2.1<b.2.1)
instance (a b:Lk):Decidable (Rise a b):=inferInstanceAs (Decidable (_\/_))
def Own(n:Nat)(x:Lk):Prop:=(0<=x.1/\x.1<n)/\(0<=x.2.1/\x.2.1<n)/\x.1≠x.2.1/\unitsN (lkP x)≠0
instance (n:Nat) (x:Lk):Decidable (Own n x):=inferInstanceAs (Decidable (_/\_))
def CB(n:Nat)(l:List Lk)(i:Nat)(h:i<l.length):Prop:=Own n l[i]/\(0<i->Rise (l[i-1]'(by omega)) l[i])/\sumU (l.take (i+1)) l[i].1<=6000
instance (n:Nat) (l:List Lk) (i:Nat) (h:i<l.length):Decidable (CB n l i h):=inferInstanceAs (Decidable (_/\_))
def EM(n:Nat)(l:List Lk):Bool:=decide (∀i (h:i<l.length),CB n l i h)
theorem Sr{n:Nat}{l:List Lk}{i:Nat}(h:i<l.length)(hb:¬CB n l i h):EM n l=false:=zH fun hc=>hb (hc i h)
theorem Ss{n:Nat}{l:List Lk}(h:∀i (h:i<l.length),CB n l i h):EM n l=true:=zG h
theorem DH{n:Nat}{l:List Lk}(h:EM n l=true){i:Nat}(hi:i<l.length):CB n l i hi:=zL h i hi
structure SR where
 ps:List ByteArray
 cap:List Lk
 vot:List Lk
def KD(a b:ByteArray):Bool:=Op.bytesLess a.toList b.toList||a.toList==b.toList
def BZ(l:List ByteArray)(i:Nat)(h:i<l.length):Prop:=An l[i]=true/\(0<i->KD l[i] (l[i-1]'(by omega))=false)
instance (l:List ByteArray) (i:Nat) (h:i<l.length):Decidable (BZ l i h):=inferInstanceAs (Decidable (_/\_))
def EN(l:List ByteArray):Bool:=decide (∀i (h:i<l.length),BZ l i h)
theorem J9{l:List ByteArray}{i:Nat}(h:i<l.length)(hb:¬BZ l i h):EN l=false:=zH fun hc=>hb (hc i h)
theorem JB{l:List ByteArray}(h:∀i (h:i<l.length),BZ l i h):EN l=true:=zG h
def Ak(s:SR):Bool:=EN s.ps&&(decide (s.ps.length<=60)&&(EM s.ps.length s.cap&&EM s.ps.length s.vot))
def Ah(s:SR):List (Nat×Nat):=s.cap.map fun x=>(x.2.1.toNat,x.1.toNat)
theorem LD{s:SR}(h:Ak s=true):InN s.ps.length (Ah s):=fun x hx=>by
 unfold Ak at h;simp only[zr]at h;obtain⟨_,_,h2,_⟩:=h;obtain⟨y,hy,rfl⟩:=List.mem_map.1 hx;obtain⟨i,hi,rfl⟩:=zi hy;obtain⟨⟨a,b,_⟩,_⟩:=DH h2 hi
 show _<_/\_<_
 simp only[];omega
end Ci
end
section
open Go.ChangeShapes Go.WideShapes Go.ChangeAt Go.RowKit Go.Shelf
namespace Nt
def LEq:List (String×DataW Unit):=Rows.topBoundsRow.laid
theorem WM:(prog.globals[2]?).map (·.type)=some 280:=by kernel_rfl
theorem WN:(prog.globals[0]?).map (·.type)=some 174:=by kernel_rfl
theorem WO:(prog.globals[1]?).map (·.type)=some 174:=by kernel_rfl
theorem PN:prog.cellsOf 202=1:=by kernel_rfl
theorem PO:prog.cellsOf 280=20:=by kernel_rfl
theorem JC:prog.cellsOf 9=1:=by kernel_rfl
theorem LF:prog.cellsOf 289=1:=by kernel_rfl
theorem XW:"*"++"errors.errorString"="*errors.errorString" := by decide
theorem St(u:TypeId)(h:prog.typeName? 3 u=some "*errors.errorString"):u=287 :=
 typeName_ptr_named (nm := "errors.errorString") (by rw[XW]; kernel_rfl) (by kernel_rfl) (by decide) u (by rw[XW]; exact h)
theorem WP{W:World}(h:laidMetH prog LEq W):Env W:=by
 have h0:=(laidMetH_iff.1 h).1
 have hT:laidMet prog [("internal/strconv.uint64pow10", Lib.tabData .u64 Lib.pow10Tab)] W := by
  have := h0.filter (fun x=>x.1=="internal/strconv.uint64pow10")
  rwa [show (LEq.filter fun x=>x.2.handleName?.isNone).filter (fun x=>x.1=="internal/strconv.uint64pow10")=[("internal/strconv.uint64pow10", Lib.tabData .u64 Lib.pow10Tab)] by kernel_rfl]at this
 have hS:laidMet prog [("strconv.ErrSyntax", .iface "*errors.errorString" (.ptr (.agg [.lit (.string [105, 110, 118, 97, 108, 105, 100, 32, 115, 121, 110, 116, 97, 120])])))] W := by
  have := h0.filter (fun x=>x.1=="strconv.ErrSyntax")
  rwa [show (LEq.filter fun x=>x.2.handleName?.isNone).filter (fun x=>x.1=="strconv.ErrSyntax")=[("strconv.ErrSyntax", .iface "*errors.errorString" (.ptr (.agg [.lit (.string [105, 110, 118, 97, 108, 105, 100, 32, 115, 121, 110, 116, 97, 120])])))] by kernel_rfl]at this
 have hR:laidMet prog [("strconv.ErrRange", .iface "*errors.errorString" (.ptr (.agg [.lit (.string [118, 97, 108, 117, 101, 32, 111, 117, 116, 32, 111, 102, 32, 114, 97, 110, 103, 101])])))] W := by
  have := h0.filter (fun x=>x.1=="strconv.ErrRange")
  rwa [show (LEq.filter fun x=>x.2.handleName?.isNone).filter (fun x=>x.1=="strconv.ErrRange")=[("strconv.ErrRange", .iface "*errors.errorString" (.ptr (.agg [.lit (.string [118, 97, 108, 117, 101, 32, 111, 117, 116, 32, 111, 102, 32, 114, 97, 110, 103, 101])])))] by kernel_rfl]at this
 refine⟨Lib.tabIs_of_head OA WM underlying280 underlying202 PN PO hT,?_,?_⟩
 .obtain⟨a0,s0,d,-,-,-⟩:=laid_sentinel hS RD WN underlying174 St underlying287 underlying289 rfl rfl underlying9 LF JC;exact⟨_,_,d⟩
 obtain⟨a0,s0,d,-,-,-⟩:=laid_sentinel hR RE WO underlying174 St underlying287 underlying289 rfl rfl underlying9 LF JC;exact⟨_,_,d⟩
noncomputable def Dj(os:Os):World :=
 { World.doorLaid prog 72 os with heap:=(World.doorLaid prog 72 os).heap.modify 3 fun
  |.cells _ t frozen=>.cells (Go.Pinned.utf8FirstZ.map fun(z:Nat)=>Value.int .u8 z).toArray t frozen
  |o=>o }
theorem own:ownKnob prog.godebug=none:=by kernel_rfl
theorem laid_met(os:Os)(args:Array Value):laidMetH prog LEq ((Dj os).forCall (fun _ _=>0) ⟨#[],args,[]⟩).memory :=
 laidMet_of_run3 8 (by kernel_rfl) (by kernel_rfl) (by kernel_rfl)
theorem Vb(os:Os)(args:Array Value):((Dj os).forCall (fun _ _=>0) ⟨#[],args,[]⟩).variablesRefB prog=true:=by kernel_rfl
theorem Vc(os:Os)(args:Array Value):(((Dj os).forCall (fun _ _=>0) ⟨#[],args,[]⟩).heap.toList.drop prog.globals.size).take ((begin prog (fun _ _=>0) default).world.heap.size-prog.globals.size) =
 (begin prog (fun _ _=>0) default).world.heap.toList.drop prog.globals.size:=by kernel_rfl
end Nt
end
section
open Go.RowKit Go.Shelf
namespace Nt
def B3(W:World)(b:Nat)(g:Bool)(n d:ByteArray):Prop:=W.heap[b]? = some (.cells #[.bool g,.string n,.string d] 48 (0,0))
theorem B3.lt{W:World}{b:Nat}{g:Bool}{n d:ByteArray}(h:B3 W b g n d):b<W.heap.size:=(Array.getElem?_eq_some_iff.1 h).1
theorem B3.facts{W:World}{b:Nat}{g:Bool}{n d:ByteArray}(h:B3 W b g n d):
 W.cell? ⟨b,0,none⟩=some (.bool g)/\W.cell? ⟨b,1,none⟩=some (.string n)/\W.cell? ⟨b,2,none⟩=some (.string d) /\
 W.frozen? ⟨b,0,none⟩=false/\W.frozen? ⟨b,1,none⟩=false/\W.frozen? ⟨b,2,none⟩=false:=by
 unfold B3 at h;simp[World.cell?,World.frozen?,h]
theorem B3.new(w:World)(g:Bool)(n d:ByteArray):B3 (w.alloc (.cells #[.bool g,.string n,.string d] 48)) w.heap.size g n d:=ym _ _
theorem B3.alloc{W:World}{b:Nat}{g:Bool}{n d:ByteArray}(h:B3 W b g n d)(o:Obj):B3 (W.alloc o) b g n d:=(yP W o b h.lt).trans h
theorem B3.below{W W':World}{b:Nat}{g:Bool}{n d:ByteArray}(h:B3 W b g n d)(hb:Below W.heap.size W W'):B3 W' b g n d:=(hb.block b h.lt).trans h
theorem B3.other{W:World}{b:Nat}{g:Bool}{n d:ByteArray}(h:B3 W b g n d){p:Addr}(hp:b≠p.block)(v:Value):B3 (W.setCell p v) b g n d:=(zg _ _ _ _ hp).trans h
theorem B3.set0{W:World}{b:Nat}{g:Bool}{n d:ByteArray}(h:B3 W b g n d)(g':Bool):B3 (W.setCell ⟨b,0,none⟩ (.bool g')) b g' n d:=by
 unfold B3 at h ⊢;simp[World.setCell,Array.getElem?_modify,h]
theorem B3.set1{W:World}{b:Nat}{g:Bool}{n d:ByteArray}(h:B3 W b g n d)(n':ByteArray):B3 (W.setCell ⟨b,1,none⟩ (.string n')) b g n' d:=by
 unfold B3 at h ⊢;simp[World.setCell,Array.getElem?_modify,h]
theorem B3.set2{W:World}{b:Nat}{g:Bool}{n d:ByteArray}(h:B3 W b g n d)(d':ByteArray):B3 (W.setCell ⟨b,2,none⟩ (.string d')) b g n d':=by
 unfold B3 at h ⊢;simp[World.setCell,Array.getElem?_modify,h]
theorem WQ(n:Nat):((num n).toList==[49])=decide (n=1):=by
 have e:(num 1).toList=[49]:=by rw[show num 1=⟨#[49]⟩ from Wo,ya]
 rw[<-e,xp,xQ,ye,ya,ya];constructor
 .intro h;have:=congrArg AN h;have e1:AN (num n).data.toList=n:=AJ n;have e2:AN (num 1).data.toList=1:=AJ 1
  rwa [e1,e2]at this
 intro h;rw[h]
theorem Vd(n:Nat):((num n).toList==[48])=decide (n=0):=by
 have e:(num 0).toList=[48]:=Sj;rw[<-e,xp,xQ,ye,ya,ya];constructor
 .intro h;have:=congrArg AN h;have e1:AN (num n).data.toList=n:=AJ n;have e2:AN (num 0).data.toList=0:=AJ 0
  rwa [e1,e2]at this
 intro h;rw[h]
theorem Nk(g:Bool)(n d:ByteArray)(w:World)(hn:n.size<=140737488355328)(h:isN n=false):
 Calls prog 97 #[.agg #[.bool g,.string n,.string d]] w fun e w'=>e=.returned (.bool false)/\Below w.heap.size w w':=by
 go_enter func97,ntmps97
 go_wp2_with fail
 refine(By n _ (by omega)).q fun w1 aa=>?_;rw[h];go_wp2;go_ret;exact⟨rfl,((zI _ w).alloc (zB _) _).trans (aa.mono (by simp))⟩
theorem Nl(g:Bool)(n d:ByteArray)(w:World)(hn:n.size<=140737488355328)(hd:d.size<=140737488355328)(h:isN n=true)(h':isN d=false):
 Calls prog 97 #[.agg #[.bool g,.string n,.string d]] w fun e w'=>e=.returned (.bool false)/\Below w.heap.size w w':=by
 have H:=zh h';clear h';go_enter func97,ntmps97
 go_wp2_with fail
 refine(By n _ (by omega)).q fun w1 ad=>?_;rw[h];have q1:=(B3.new w g n d).below ad;obtain⟨a1,a2,a3,a4,a5,a6⟩:=q1.facts;have aa:=zh (((zI _ w).alloc (zB _) _).trans (ad.mono (by simp)));replace q1:=zh q1;clear ad
 go_wp2_with fail
 refine(By d _ (by omega)).q fun w2 ae=>?_;rw[H.o];have af:=aa.t ae;clear ae aa;go_wp2;go_ret;exact⟨rfl,af.o⟩
theorem LG(n:Nat):((T (some n)).toList==[49])=decide (n=1):=WQ n
theorem Bp(n:Nat):((T (some n)).toList==[48])=decide (n=0):=Vd n
theorem Nm(g:Bool)(a:Nat)(w:World)(ha:a<Lim):
 Calls prog 97 #[.agg #[.bool g,.string (T (some a)),.string (T (some 0))]] w fun e w'=>e=.returned (.bool false)/\Below w.heap.size w w':=by
 have z:=Bp 0;rw[zG rfl]at z;have h0:0<Lim:=by omega
 go_enter func97,ntmps97
 go_wp2_with fail
 refine(PM (some a) (As ha) _).q fun w1 h=>?_;rw[wP];have q1:=(B3.new w g (T (some a)) (T (some 0))).below h;obtain⟨a1,a2,a3,a4,a5,a6⟩:=q1.facts;have d:=zh (((zI _ w).alloc (zB _) _).trans (h.mono (by simp)));replace q1:=zh q1;clear h
 go_wp2_with fail
 refine(PM (some 0) (As h0) _).q fun w2 aa=>?_;rw[wP];obtain⟨b1,b2,b3,b4,b5,b6⟩:=(q1.o.below aa).facts;have ad:=d.t aa;clear aa d;go_wp2;go_ret;exact⟨rfl,ad.o⟩
theorem Nn(g:Bool)(b:Nat)(w:World)(hb:b<Lim)(h:b≠0):
 Calls prog 97 #[.agg #[.bool g,.string (T (some 0)),.string (T (some b))]] w fun e w'=>e=.returned (.bool (!g&&decide (b=1)))/\Below w.heap.size w w':=by
 obtain⟨r,hr⟩:∃r,r=decide (b=1):=⟨_,rfl⟩;rw[<-hr]
 cases g<;>cases r
 all_goals
  have z:=Bp 0;rw[zG rfl]at z;have z2:=Bp b;rw[zH h]at z2;have z3:=LG b;rw[<-hr]at z3;clear hr;have h0:0<Lim:=by omega
  replace h:=zh h;go_enter func97,ntmps97
  go_wp2_with fail
  refine(PM (some 0) (As h0) _).q fun w1 aa=>?_;rw[wP];have q1:=(B3.new w _ (T (some 0)) (T (some b))).below aa;obtain⟨a1,a2,a3,a4,a5,a6⟩:=q1.facts;have d:=zh (((zI _ w).alloc (zB _) _).trans (aa.mono (by simp)));replace q1:=zh q1;clear aa
  go_wp2_with fail
  refine(PM (some b) (As hb) _).q fun w2 ad=>?_;rw[wP];obtain⟨b1,b2,b3,b4,b5,b6⟩:=(q1.o.below ad).facts;have ae:=d.t ad;clear ad d;go_wp2;go_ret;exact⟨rfl,ae.o⟩
theorem PP(g:Bool)(a b:Nat)(w:World)(hE:Env w)(ha:a<Lim)(hb:b<Lim)(aa:a≠0)(ad:b≠0):
 Calls prog 97 #[.agg #[.bool g,.string (T (some a)),.string (T (some b))]] w fun e w'=>e=.returned (.bool (decide (Nat.gcd a b=1)))/\Below w.heap.size w w':=by
 have z:=Bp a;rw[zH aa]at z;have z2:=Bp b;rw[zH ad]at z2;have z3:=LG (Nat.gcd a b)
 have hG:Hid (Nf (some a) (some b)=some (Nat.gcd a b)/\Ng (some a) (some b)=0):=by
  have:=Gf ha hb;exact⟨by simp only[Nf,apO,KB,zF this],by simp only[Ng,apE,zF this]⟩
 replace aa:=zh aa;replace ad:=zh ad;replace hE:=zh hE;go_enter func97,ntmps97
 go_wp2_with fail
 refine(PM (some a) (As ha) _).q fun w1 ae=>?_;rw[wP];have q1:=(B3.new w g (T (some a)) (T (some b))).below ae;obtain⟨a1,a2,a3,a4,a5,a6⟩:=q1.facts;have h:=zh (((zI _ w).alloc (zB _) _).trans (ae.mono (by simp)));replace q1:=zh q1;clear ae
 go_wp2_with fail
 refine(PM (some b) (As hb) _).q fun w2 af=>?_;rw[wP];obtain⟨b1,b2,b3,b4,b5,b6⟩:=(q1.o.below af).facts;have d:=h.t af;clear af h q1
 go_wp2_with fail
 refine(Sg (some a) (some b) _ (hE.o.below d.o) (As ha) (As hb)).q fun w3 ag=>?_;rw[hG.o.1,hG.o.2];have ah:=d.t ag;clear ag d;go_wp2;go_ret;exact⟨rfl,ah.o⟩
theorem AL(g:Bool)(n d:ByteArray)(w:World)(hE:Env w)(hn:n.size<=140737488355328)(hd:d.size<=140737488355328):
 Calls prog 97 #[.agg #[.bool g,.string n,.string d]] w fun e w'=>e=.returned (.bool (A4 g n d))/\Below w.heap.size w w':=by
 cases h1:isN n with
 |false=>
  have e:A4 g n d=false:=by unfold A4;rw[h1];rfl
  rw[e];exact Nk g n d w hn h1
 |true=>
  cases h2:isN d with
  |false=>
   have e:A4 g n d=false:=by unfold A4;rw[h1,h2];rfl
   rw[e];exact Nl g n d w hn hd h1 h2
  |true=>
   obtain⟨a,ha,rfl⟩:=Ch h1;obtain⟨b,hb,rfl⟩:=Ch h2;rw[GD g a b ha hb]
   by_cases hb0:b=0
   .subst hb0;simp only[decide_true,Bool.not_true,vJ];exact Nm g a w ha
   rw[zH hb0,Bool.not_false,wg]
   by_cases ha0:a=0
   .rw[zF ha0];subst ha0;exact Nn g b w hb hb0
   rw[zE ha0];exact PP g a b w hE ha hb ha0 hb0
theorem Du(g:Bool)(a b:Nat)(w:World)(hE:Env w)(ha:a<Lim)(hb:b<Lim)(an:b≠0):
 Calls prog 108 #[.bool g,.string (T (some a)),.string (T (some b))] w fun e w'=>e=.returned (.tuple #[qv (mkRat (sg g a) b),.int .i64 0])/\Below w.heap.size w w':=by
 have HV:=zh (XV g a b an);obtain⟨G,am⟩:∃G,G=Nat.gcd a b:=⟨_,rfl⟩;have aj:G<Lim:=by rw[am];exact Gf ha hb
 have al:G≠0:=by rw[am];exact vd (Nat.gcd_pos_of_pos_right a (by omega))
 have hG:Hid (Nf (some a) (some b)=some G/\Ng (some a) (some b)=0):=by
  have:=Gf ha hb;rw[am];exact⟨by simp only[Nf,apO,KB,zF this],by simp only[Ng,apE,zF this]⟩
 have ag:Hid (PJ (some a) (some G)=some (a/G)/\PK (some a) (some G)=0):=⟨zE al,zE al⟩;have ah:Hid (PJ (some b) (some G)=some (b/G)/\PK (some b) (some G)=0):=⟨zE al,zE al⟩;rw[<-am]at HV;have z:=Bp (a/G);generalize hx:a/G=x at HV ag z;generalize hy:b/G=y at HV ah;replace hE:=zh hE;clear am al hx hy an;have key:(g=false)\/(g=true/\x=0)\/(g=true/\x≠0):=by cases g<;>simp<;>omega
 rcases key with rfl|⟨rfl,ai⟩|⟨rfl,ai⟩
 rotate_left
 .rw[zG ai]at HV z;replace ai:=zh ai;go_enter func108,ntmps108
  go_wp2_with fail
  refine(Sg (some a) (some b) _ (hE.o.below ((zI _ w).alloc (zB _) _)) (As ha) (As hb)).q fun w1 ae=>?_;rw[hG.o.1,hG.o.2];have q1:=(B3.new w false ⟨#[]⟩ ⟨#[]⟩).below ae;have d:=zh (((zI _ w).alloc (zB _) _).trans (ae.mono (by simp)));have ao:=q1.lt;replace q1:=zh q1;clear ae
  go_wp2_with fail
  refine(Nh (some a) (some G) _ (hE.o.below (d.o.alloc d.o.size _)) (As ha) (As aj)).q fun w2 h=>?_;rw[ag.o.1,ag.o.2];have q2:=(q1.o.alloc _).below h;have r2:=(B3.new w1 true ⟨#[]⟩ ⟨#[]⟩).below h;have ad:=zh ((d.o.alloc d.o.size _).trans (h.mono (by have:=d.o.size;simp;omega)));obtain⟨c1,c2,c3,c4,c5,c6⟩:=r2.facts;have ap:=r2.lt;replace q2:=zh q2;replace r2:=zh r2;clear h q1
  go_wp2_with fail
  refine(Nh (some b) (some G) _ (hE.o.below (ad.o.setCell (by have:=d.o.size;simpa using this) _)) (As hb) (As aj)).q fun w3 aa=>?_;rw[ah.o.1,ah.o.2];have q3:=(q2.o.other (p:=⟨w1.heap.size,1,none⟩) (by simp;omega) _).below aa;have r3:=(r2.o.set1 (T (some x))).below aa;have ak:=zh ((ad.o.setCell (p:=⟨w1.heap.size,1,none⟩) (by have:=d.o.size;simpa using this) _).trans (aa.mono (by have:=ad.o.size;simpa using this)));have af:=d.o.size;obtain⟨d1,d2,d3,d4,d5,d6⟩:=q3.facts;obtain⟨e1,e2,e3,e4,e5,e6⟩:=r3.facts;have aq:=r3.lt;clear aa q2 r2 c1 c2 c3 c4 c5 c6;replace q3:=zh q3;replace r3:=zh r3;go_wp2;refine zo (v:=.tuple #[.agg #[.bool false,.string (T (some x)),.string (T (some y))],.int .i64 0]) (by simp[results,results108,go_sem,d1,d2,d3]) rfl ⟨by rw[HV.o];rfl,?_⟩
  repeat refine yI ?_ (by first|exact zB _|exact af) _
  exact ak.o
 .rw[zH ai]at HV z;replace ai:=zh ai;go_enter func108,ntmps108
  go_wp2_with fail
  refine(Sg (some a) (some b) _ (hE.o.below ((zI _ w).alloc (zB _) _)) (As ha) (As hb)).q fun w1 ae=>?_;rw[hG.o.1,hG.o.2];have q1:=(B3.new w false ⟨#[]⟩ ⟨#[]⟩).below ae;have d:=zh (((zI _ w).alloc (zB _) _).trans (ae.mono (by simp)));have ao:=q1.lt;replace q1:=zh q1;clear ae
  go_wp2_with fail
  refine(Nh (some a) (some G) _ (hE.o.below (d.o.alloc d.o.size _)) (As ha) (As aj)).q fun w2 h=>?_;rw[ag.o.1,ag.o.2];have q2:=(q1.o.alloc _).below h;have r2:=(B3.new w1 true ⟨#[]⟩ ⟨#[]⟩).below h;have ad:=zh ((d.o.alloc d.o.size _).trans (h.mono (by have:=d.o.size;simp;omega)));obtain⟨c1,c2,c3,c4,c5,c6⟩:=r2.facts;have ap:=r2.lt;replace q2:=zh q2;replace r2:=zh r2;clear h q1
  go_wp2_with fail
  refine(Nh (some b) (some G) _ (hE.o.below (ad.o.setCell (by have:=d.o.size;simpa using this) _)) (As hb) (As aj)).q fun w3 aa=>?_;rw[ah.o.1,ah.o.2];have q3:=(q2.o.other (p:=⟨w1.heap.size,1,none⟩) (by simp;omega) _).below aa;have r3:=(r2.o.set1 (T (some x))).below aa;have ak:=zh ((ad.o.setCell (p:=⟨w1.heap.size,1,none⟩) (by have:=d.o.size;simpa using this) _).trans (aa.mono (by have:=ad.o.size;simpa using this)));have af:=d.o.size;obtain⟨d1,d2,d3,d4,d5,d6⟩:=q3.facts;obtain⟨e1,e2,e3,e4,e5,e6⟩:=r3.facts;have aq:=r3.lt;clear aa q2 r2 c1 c2 c3 c4 c5 c6;replace q3:=zh q3;replace r3:=zh r3;go_wp2;refine zo (v:=.tuple #[.agg #[.bool true,.string (T (some x)),.string (T (some y))],.int .i64 0]) (by simp[results,results108,go_sem,d1,d2,d3]) rfl ⟨by rw[HV.o];rfl,?_⟩
  repeat refine yI ?_ (by first|exact zB _|exact af) _
  exact ak.o
 go_enter func108,ntmps108
 go_wp2_with fail
 refine(Sg (some a) (some b) _ (hE.o.below ((zI _ w).alloc (zB _) _)) (As ha) (As hb)).q fun w1 ae=>?_;rw[hG.o.1,hG.o.2];have q1:=(B3.new w false ⟨#[]⟩ ⟨#[]⟩).below ae;have d:=zh (((zI _ w).alloc (zB _) _).trans (ae.mono (by simp)));have ao:=q1.lt;replace q1:=zh q1;clear ae
 go_wp2_with fail
 refine(Nh (some a) (some G) _ (hE.o.below (d.o.alloc d.o.size _)) (As ha) (As aj)).q fun w2 h=>?_;rw[ag.o.1,ag.o.2];have q2:=(q1.o.alloc _).below h;have r2:=(B3.new w1 false ⟨#[]⟩ ⟨#[]⟩).below h;have ad:=zh ((d.o.alloc d.o.size _).trans (h.mono (by have:=d.o.size;simp;omega)));obtain⟨c1,c2,c3,c4,c5,c6⟩:=r2.facts;have ap:=r2.lt;replace q2:=zh q2;replace r2:=zh r2;clear h q1
 go_wp2_with fail
 refine(Nh (some b) (some G) _ (hE.o.below (ad.o.setCell (by have:=d.o.size;simpa using this) _)) (As hb) (As aj)).q fun w3 aa=>?_;rw[ah.o.1,ah.o.2];have q3:=(q2.o.other (p:=⟨w1.heap.size,1,none⟩) (by simp;omega) _).below aa;have r3:=(r2.o.set1 (T (some x))).below aa;have ak:=zh ((ad.o.setCell (p:=⟨w1.heap.size,1,none⟩) (by have:=d.o.size;simpa using this) _).trans (aa.mono (by have:=ad.o.size;simpa using this)));have af:=d.o.size;obtain⟨d1,d2,d3,d4,d5,d6⟩:=q3.facts;obtain⟨e1,e2,e3,e4,e5,e6⟩:=r3.facts;have aq:=r3.lt;clear aa q2 r2 c1 c2 c3 c4 c5 c6;replace q3:=zh q3;replace r3:=zh r3;go_wp2;refine zo (v:=.tuple #[.agg #[.bool false,.string (T (some x)),.string (T (some y))],.int .i64 0]) (by simp[results,results108,go_sem,d1,d2,d3]) rfl ⟨by rw[HV.o];rfl,?_⟩
 repeat refine yI ?_ (by first|exact zB _|exact af) _
 exact ak.o
theorem Su:(prog.info? 9).map (fun i=>(i.zero,i.size,i.bytes))=some (some (.string ⟨#[]⟩),1,16):=by kernel_rfl
def Gg(ks:List Nat):List Value:=ks.map fun k=>Value.string (T (some k))
def Ex(W:World)(v:Value)(ks:List Nat):Prop:=∃g cap,v=.slice (some ⟨g,0,none⟩) ks.length cap/\g<W.heap.size/\∀i (h:i<ks.length),W.cell? ⟨g,i,none⟩=some (.string (T (some ks[i])))
theorem No(ks:List Nat)(k:Nat):Gg ks++[Value.string (T (some k))]=Gg (ks++[k]):=by simp[Gg]
theorem Gh{B:Nat}{W:World}{v:Value}{ks:List Nat}(h:W.ownsRow B 9 1 v ks.length (Gg ks))(h0:ks≠[]):Ex W v ks:=by
 rcases id h.2 with⟨rfl,hx⟩|⟨g,cap,cur,rfl,hg,hh,hn,d,aa,ht⟩
 .exact absurd (List.length_eq_zero_iff.1 hx) h0
 refine⟨g,cap,rfl,(Array.getElem?_eq_some_iff.1 hh).1,fun i hi=>?_⟩;rw[World.ownsRow.cellAt h i (by omega)];simp[Gg,hi]
def Ey(W:World)(b:Nat)(ps:List (Nat×Nat)):Prop:=∀i (h:i<ps.length),W.cell? ⟨b,i*2,none⟩=some (.string (T (some ps[i].1)))/\W.cell? ⟨b,i*2+1,none⟩=some (.string (T (some ps[i].2)))
def Eb(ps:List (Nat×Nat)):List Nat:=ps.map fun p=>p.1*p.2
def XX(w:World)(ps:List (Nat×Nat))(k:Nat)(v:Value)(wr:World):Prop :=
 wr.ownsRow w.heap.size 9 1 v (Eb (ps.take k)).length (Gg (Eb (ps.take k)))/\Below w.heap.size w wr
theorem Ir{B:Nat}{e:TypeId}{size:Nat}{w w':World}{v:Value}{n:Nat}{xs:List Value}(h:w.ownsRow B e size v n xs)(hb:Below w.heap.size w w'):w'.ownsRow B e size v n xs:=by
 obtain⟨h1,h2⟩:=h;refine⟨h1,?_⟩
 rcases h2 with h2|⟨g,cap,cur,hv,hg,hh,r⟩
 .exact Or.inl h2
 exact Or.inr ⟨g,cap,cur,hv,hg,by rw[hb.block g (Array.getElem?_eq_some_iff.1 hh).1];exact hh,r⟩
theorem Np(s:ByteArray):∀u∈[Value.string s],u.oneCell'=true:=by
 intro u hu;simp at hu;subst hu;rfl
theorem Db(w:World)(hE:Env w)(b cap:Nat)(ps:List (Nat×Nat))(hb:b<w.heap.size)(hl:ps.length<=100)(hp:Ey w b ps)(hs:∀p∈ps,p.1<Lim/\p.2<Lim/\p.1*p.2<Lim):
 Calls prog 135 #[.slice (some ⟨b,0,none⟩) ps.length cap] w fun e w'=>(∃v,e=.returned v/\w'.ownsRow w.heap.size 9 1 v (Eb ps).length (Gg (Eb ps)))/\Below w.heap.size w w':=by
 obtain⟨i0,hi,ah,ai,aj⟩:=vX Su;have HP:=zh hp;have HS:=zh hs;replace hE:=zh hE;clear hp hs;go_enter func135,ntmps135;go_wp2
 go_loopw [3,10] (fun v i wr=>∃k:Nat,k<=ps.length/\i=.int .i64 (k:Int)/\XX w ps k v wr) (fun _ i _=>ps.length-(intOf i).toNat)
 case atStart=>exact⟨0,zS _,rfl,yf _ _ _ _,zI _ _⟩
 case round=>
  obtain⟨k,hk,rfl,z1,z2⟩:=hrel;have ag:=z2.size
  by_cases hlt:k<ps.length
  .obtain ⟨x,hx⟩:∃x,x=ps[k].1:=⟨_,rfl⟩;obtain⟨y,hy⟩:∃y,y=ps[k].2:=⟨_,rfl⟩;obtain⟨aa,ad⟩:=HP.o k hlt;obtain⟨s1,s2,s3⟩:=HS.o _ (zO hlt);rw[<-hx]at aa s1 s3;rw[<-hy]at ad s2 s3;have c1:=(z2.cell (p:=⟨b,k*2,none⟩) hb).trans aa;have c2:=(z2.cell (p:=⟨b,k*2+1,none⟩) hb).trans ad;have hM:Hid (Sb (some x) (some y)=some (x*y)/\Sc (some x) (some y)=0):=⟨by simp only[Sb,apO,KB,zF s3],by simp only[Sc,apE,zF s3]⟩
   have hN:Hid (Eb (ps.take (k+1))=Eb (ps.take k)++[x*y]):=by
    unfold Hid Eb;rw[zP hlt,yD,hx,hy];rfl
   have hL:Hid ((Eb (ps.take k)).length=k):=by unfold Hid Eb;simp;omega
   replace z1:=zh z1;replace z2:=zh z2;clear aa ad hx hy
   go_wp2_with fail
   refine(XS (some x) (some y) _ (hE.o.below (z2.o.alloc ag _)) (As s1) (As s2)).q fun w1 d=>?_;rw[hM.o.1,hM.o.2];have ae:=zh ((z2.o.alloc ag _).trans (d.mono (by simp;omega)));have ho:Hid (w1.ownsRow w.heap.size 9 1 u3 (Eb (ps.take k)).length (Gg (Eb (ps.take k)))):=Ir (z1.o.alloc _) d;have ak:=ae.o.size;clear d z1 z2
   go_wp2_with (at_builtin;refine wpList_append_own _ rfl _ _ 23 rfl w.heap.size 9 i0 (.string ⟨#[]⟩) 1 16 underlying23 hi ah ai aj rfl (by decide) u3 (Eb (ps.take k)).length (Gg (Eb (ps.take k))) rfl (ho.o.alloc _) ⟨w1.heap.size,0,none⟩ 1 1 [.string (T (some (x*y)))] rfl rfl (DF _ _ _) (Np _) (by have:=hL.o;unfold maxLen;omega) (by have:=hL.o;omega) (by simp;omega) ?_;intro v2 w2 h af _)
   refine⟨⟨k+1,by omega,by go_num,?_,(ae.o.alloc (by omega) _).grown af (by simp;omega) (fun b e=>(ho.o.lt b e).1)⟩,by simp only[intOf];omega⟩;rw[hN.o,<-No,zX];exact h
  obtain rfl:k=ps.length:=by omega
  have e:ps.take ps.length=ps:=xA (zB _);rw[e]at z1;replace z1:=zh z1;replace z2:=zh z2;clear e;go_wp2;go_ret;exact⟨⟨_,rfl,z1.o⟩,z2.o⟩
theorem Fk{B:Nat}{a w:World}(h:Below B a w)(n:Nat):Below B a (w.drewN n):=⟨h.os,h.tape,h.output,h.size,h.block⟩
def SumBoxes(W:World)(B:Nat)(g1 g2:Bool)(a b c d:Nat):Prop :=
 B3 W B g1 (T (some a)) (T (some b))/\B3 W (B+1) g2 (T (some c)) (T (some d))/\B3 W (B+1+1) false ⟨#[]⟩ ⟨#[]⟩
abbrev DA(w:World)(g1 g2:Bool)(a b c d:Nat):World :=
 ((w.alloc (.cells #[.bool g1,.string (T (some a)),.string (T (some b))] 48)).alloc (.cells #[.bool g2,.string (T (some c)),.string (T (some d))] 48)).alloc (.cells #[.bool false,.string ⟨#[]⟩,.string ⟨#[]⟩] 48)
theorem SumBoxes.new(w:World)(g1 g2:Bool)(a b c d:Nat):SumBoxes (DA w g1 g2 a b c d) w.heap.size g1 g2 a b c d:=by
 have e1:(w.alloc (.cells #[.bool g1,.string (T (some a)),.string (T (some b))] 48)).heap.size=w.heap.size+1:=by simp
 have e2:((w.alloc (.cells #[.bool g1,.string (T (some a)),.string (T (some b))] 48)).alloc (.cells #[.bool g2,.string (T (some c)),.string (T (some d))] 48)).heap.size=w.heap.size+1+1:=by simp
 refine⟨((B3.new w _ _ _).alloc _).alloc _,?_,?_⟩
 .have h:=B3.new (w.alloc (.cells #[.bool g1,.string (T (some a)),.string (T (some b))] 48)) g2 (T (some c)) (T (some d));rw[e1]at h;exact h.alloc _
 have h:=B3.new ((w.alloc (.cells #[.bool g1,.string (T (some a)),.string (T (some b))] 48)).alloc (.cells #[.bool g2,.string (T (some c)),.string (T (some d))] 48)) false ⟨#[]⟩ ⟨#[]⟩;rw[e2]at h;exact h
theorem BM(w:World)(g1 g2:Bool)(a b c d:Nat):Below w.heap.size w (DA w g1 g2 a b c d) :=
 (((zI _ w).alloc (zB _) _).alloc (by simp) _).alloc (by simp;omega) _
theorem SumBoxes.alloc{W:World}{B:Nat}{g1 g2:Bool}{a b c d:Nat}(h:SumBoxes W B g1 g2 a b c d)(o:Obj):SumBoxes (W.alloc o) B g1 g2 a b c d:=⟨h.1.alloc o,h.2.1.alloc o,h.2.2.alloc o⟩
theorem SumBoxes.below{W W':World}{B:Nat}{g1 g2:Bool}{a b c d:Nat}(h:SumBoxes W B g1 g2 a b c d)(hb:Below W.heap.size W W'):SumBoxes W' B g1 g2 a b c d:=⟨h.1.below hb,h.2.1.below hb,h.2.2.below hb⟩
theorem Nq{W:World}{v:Value}{x y z:Nat}(h:Ex W v [x,y,z]):∃g cap,v=.slice (some ⟨g,0,none⟩) 3 cap/\W.cell? ⟨g,0,none⟩=some (.string (T (some x)))/\W.cell? ⟨g,1,none⟩=some (.string (T (some y)))/\W.cell? ⟨g,2,none⟩=some (.string (T (some z))):=by
 obtain⟨g,cap,rfl,hg,hc⟩:=h;exact⟨g,cap,rfl,hc 0 (by simp),hc 1 (by simp),hc 2 (by simp)⟩
theorem WR{W:World}{v:Value}{x y:Nat}(h:Ex W v [x,y]):∃g cap,v=.slice (some ⟨g,0,none⟩) 2 cap/\g<W.heap.size/\W.cell? ⟨g,0,none⟩=some (.string (T (some x)))/\W.cell? ⟨g,1,none⟩=some (.string (T (some y))):=by
 obtain⟨g,cap,rfl,hg,hc⟩:=h;exact⟨g,cap,rfl,hg,hc 0 (by simp),hc 1 (by simp)⟩
theorem Nr(W:World)(x1 y1 x2 y2 x3 y3:Nat):
 Ey (W.alloc (.cells #[.string (T (some x1)),.string (T (some y1)),.string (T (some x2)),.string (T (some y2)),.string (T (some x3)),.string (T (some y3))] 192)) W.heap.size [(x1,y1),(x2,y2),(x3,y3)]:=by
 intro i hi;have h:=ym W (.cells #[.string (T (some x1)),.string (T (some y1)),.string (T (some x2)),.string (T (some y2)),.string (T (some x3)),.string (T (some y3))] 192)
 match i,hi with
 |0,_=>simp only[World.cell?,h];exact⟨rfl,rfl⟩
 |1,_=>simp only[World.cell?,h];exact⟨rfl,rfl⟩
 |2,_=>simp only[World.cell?,h];exact⟨rfl,rfl⟩
 |n+3,hi=>simp at hi;omega
theorem WS(W:World)(x1 y1 x2 y2:Nat):
 Ey (W.alloc (.cells #[.string (T (some x1)),.string (T (some y1)),.string (T (some x2)),.string (T (some y2))] 192)) W.heap.size [(x1,y1),(x2,y2)]:=by
 intro i hi;have h:=ym W (.cells #[.string (T (some x1)),.string (T (some y1)),.string (T (some x2)),.string (T (some y2))] 192)
 match i,hi with
 |0,_=>simp only[World.cell?,h];exact⟨rfl,rfl⟩
 |1,_=>simp only[World.cell?,h];exact⟨rfl,rfl⟩
 |n+2,hi=>simp at hi;omega
theorem PQ(g1:Bool)(a b c d:Nat)(w:World)(hE:Env w)(ha:a<L1)(hb:b<L1)(hc:c<L1)(hd:d<L1)(al:b≠0)(am:d≠0):
 Calls prog 104 #[.agg #[.bool g1,.string (T (some a)),.string (T (some b))],.agg #[.bool g1,.string (T (some c)),.string (T (some d))]] w fun e w'=>e=.returned (.tuple #[qv (mkRat (sg g1 (a*d+c*b)) (b*d)),.int .i64 0])/\Below w.heap.size w w':=by
 have ai:b*d≠0:=wE al am;have HS:=zh (And.intro (CA ha hd) (And.intro (CA hc hb) (And.intro (CA hb hd) J6)))
 have HP:Hid (∀p∈[(a,d),(c,b),(b,d)],p.1<Lim/\p.2<Lim/\p.1*p.2<Lim):=by
  have:=HS.o;intro p hp;simp only[xC,yZ,wk]at hp
  rcases hp with rfl|rfl|rfl
  .exact⟨AG ha,AG hd,by show a*d<Lim;omega⟩
  .exact⟨AG hc,AG hb,by show c*b<Lim;omega⟩
  exact⟨AG hb,AG hd,by show b*d<Lim;omega⟩
 have ao:Hid (Ey ((DA w g1 g1 a b c d).alloc (.cells #[.string (T (some a)),.string (T (some d)),.string (T (some c)),.string (T (some b)),.string (T (some b)),.string (T (some d))] 192)) (w.heap.size+1+1+1) [(a,d),(c,b),(b,d)]):=by
  have:=Nr (DA w g1 g1 a b c d) a d c b b d
  rwa [show (DA w g1 g1 a b c d).heap.size=w.heap.size+1+1+1 by simp]at this
 have ad:Hid (Below w.heap.size w ((DA w g1 g1 a b c d).alloc (.cells #[.string (T (some a)),.string (T (some d)),.string (T (some c)),.string (T (some b)),.string (T (some b)),.string (T (some d))] 192))):=(BM w g1 g1 a b c d).alloc (BM w g1 g1 a b c d).size _;have ap:Hid (SumBoxes ((DA w g1 g1 a b c d).alloc (.cells #[.string (T (some a)),.string (T (some d)),.string (T (some c)),.string (T (some b)),.string (T (some b)),.string (T (some d))] 192)) w.heap.size g1 g1 a b c d):=(SumBoxes.new w g1 g1 a b c d).alloc _;replace hE:=zh hE;replace ai:=zh ai;clear ha hb hc hd al am
 have hA:Hid (WI (some (a*d)) (some (c*b))=some (a*d+c*b)/\WJ (some (a*d)) (some (c*b))=0):=by
  have:=HS.o;have h:a*d+c*b<Lim:=by omega
  exact⟨by simp only[WI,apO,KB,zF h],by simp only[WJ,apE,zF h]⟩
 go_enter func104,ntmps104
 go_wp2_with fail
 refine(Db _ (hE.o.below ad.o) (w.heap.size+1+1+1) 3 [(a,d),(c,b),(b,d)] (by simp) (by simp) ao.o HP.o).mono ?_;rintro e w1 ⟨⟨v,rfl,ho⟩,af⟩;have ak:Ex w1 v [a*d,c*b,b*d]:=Gh ho (by simp);obtain⟨lg,lcap,rfl,l0,l1,l2⟩:=Nq ak;have q1:=ap.o.below af;have aj:=ad.t af;obtain⟨a1,a2,a3,a4,a5,a6⟩:=q1.1.facts;obtain⟨b1,b2,b3,b4,b5,b6⟩:=q1.2.1.facts;obtain⟨c1,c2,c3,c4,c5,c6⟩:=q1.2.2.facts;have aq:=q1.2.2.lt;replace q1:=zh q1;clear af ak ho
 go_wp2_with fail
 show Code.wp _ _ _ _ _
 go_quiet (fail)
 obtain⟨W,hW⟩:∃W,W=w1.drewN nq:=⟨_,rfl⟩;have qW:Hid (SumBoxes W w.heap.size g1 g1 a b c d):=by rw[hW];exact q1.o
 have ae:Hid (Below w.heap.size w W):=by rw[hW];exact Fk aj.o nq
 rw[<-hW];clear a1 a2 a3 a4 a5 a6 b1 b2 b3 b4 b5 b6 c1 c2 c3 c4 c5 c6 aq l0 l1 l2 hW q1 aj;obtain⟨a1,a2,a3,a4,a5,a6⟩:=qW.o.1.facts;obtain⟨b1,b2,b3,b4,b5,b6⟩:=qW.o.2.1.facts
 go_wp2_with fail
 refine(YF (some (a*d)) (some (c*b)) _ (hE.o.below ae.o) (As (by have:=HS.o;omega)) (As (by have:=HS.o;omega))).q fun w2 ag=>?_;rw[hA.o.1,hA.o.2];have q2:=qW.o.below ag;have aa:=ae.t ag;clear a1 a2 a3 a4 a5 a6 b1 b2 b3 b4 b5 b6 ag;obtain⟨a1,a2,a3,a4,a5,a6⟩:=q2.1.facts;obtain⟨b1,b2,b3,b4,b5,b6⟩:=q2.2.1.facts;replace q2:=zh q2
 go_wp2_with fail
 refine(Du g1 (a*d+c*b) (b*d) _ (hE.o.below aa.o) (by have:=HS.o;omega) (by have:=HS.o;omega) ai.o).q fun w3 ah=>?_;have q3:=q2.o.below ah;have an:=aa.t ah;clear a1 a2 a3 a4 a5 a6 b1 b2 b3 b4 b5 b6 ah;obtain⟨c1,c2,c3,c4,c5,c6⟩:=q3.2.2.facts;replace q3:=zh q3;unfold qv;go_wp2;refine zo (v:=.tuple #[.agg #[.bool (decide ((mkRat (sg g1 (a*d+c*b)) (b*d)).num<0)),.string (T (some (mkRat (sg g1 (a*d+c*b)) (b*d)).num.natAbs)),.string (T (some (mkRat (sg g1 (a*d+c*b)) (b*d)).den))],.int .i64 0]) (by simp[results,results104,go_sem,c1,c2,c3]) rfl ⟨rfl,?_⟩
 repeat refine yI ?_ (by simp only[];omega) _
 exact an.o
theorem PR(g1 g2:Bool)(a b c d:Nat)(w:World)(hE:Env w)(ha:a<L1)(hb:b<L1)(hc:c<L1)(hd:d<L1)(an:b≠0)(ao:d≠0)(hg:(g1==g2)=false)(hl:a*d<c*b):
 Calls prog 104 #[.agg #[.bool g1,.string (T (some a)),.string (T (some b))],.agg #[.bool g2,.string (T (some c)),.string (T (some d))]] w fun e w'=>e=.returned (.tuple #[qv (mkRat (sg g2 (c*b-a*d)) (b*d)),.int .i64 0])/\Below w.heap.size w w':=by
 have aj:b*d≠0:=wE an ao;have HS:=zh (And.intro (CA ha hd) (And.intro (CA hc hb) (And.intro (CA hb hd) J6)))
 have HP:Hid (∀p∈[(a,d),(c,b),(b,d)],p.1<Lim/\p.2<Lim/\p.1*p.2<Lim):=by
  have:=HS.o;intro p hp;simp only[xC,yZ,wk]at hp
  rcases hp with rfl|rfl|rfl
  .exact⟨AG ha,AG hd,by show a*d<Lim;omega⟩
  .exact⟨AG hc,AG hb,by show c*b<Lim;omega⟩
  exact⟨AG hb,AG hd,by show b*d<Lim;omega⟩
 have ar:Hid (Ey ((DA w g1 g2 a b c d).alloc (.cells #[.string (T (some a)),.string (T (some d)),.string (T (some c)),.string (T (some b)),.string (T (some b)),.string (T (some d))] 192)) (w.heap.size+1+1+1) [(a,d),(c,b),(b,d)]):=by
  have:=Nr (DA w g1 g2 a b c d) a d c b b d
  rwa [show (DA w g1 g2 a b c d).heap.size=w.heap.size+1+1+1 by simp]at this
 have ad:Hid (Below w.heap.size w ((DA w g1 g2 a b c d).alloc (.cells #[.string (T (some a)),.string (T (some d)),.string (T (some c)),.string (T (some b)),.string (T (some b)),.string (T (some d))] 192))):=(BM w g1 g2 a b c d).alloc (BM w g1 g2 a b c d).size _;have au:Hid (SumBoxes ((DA w g1 g2 a b c d).alloc (.cells #[.string (T (some a)),.string (T (some d)),.string (T (some c)),.string (T (some b)),.string (T (some b)),.string (T (some d))] 192)) w.heap.size g1 g2 a b c d):=(SumBoxes.new w g1 g2 a b c d).alloc _;replace hE:=zh hE;replace aj:=zh aj;clear ha hb hc hd an ao;have aq:Hid (Va (some (a*d)) (some (c*b))=0):=rfl;have al:Hid (UY (some (c*b)) (some (a*d))=some (c*b-a*d)/\UZ (some (c*b)) (some (a*d))=0):=⟨zF (by omega),zF (by omega)⟩;have hC:Hid (Sd (some (a*d)) (some (c*b))=-1):=Ew hl;replace hl:=zh hl;go_enter func104,ntmps104
 go_wp2_with fail
 refine(Db _ (hE.o.below ad.o) (w.heap.size+1+1+1) 3 [(a,d),(c,b),(b,d)] (by simp) (by simp) ar.o HP.o).mono ?_;rintro e w1 ⟨⟨v,rfl,ho⟩,af⟩;have am:Ex w1 v [a*d,c*b,b*d]:=Gh ho (by simp);obtain⟨lg,lcap,rfl,l0,l1,l2⟩:=Nq am;have q1:=au.o.below af;have ak:=ad.t af;obtain⟨a1,a2,a3,a4,a5,a6⟩:=q1.1.facts;obtain⟨b1,b2,b3,b4,b5,b6⟩:=q1.2.1.facts;obtain⟨c1,c2,c3,c4,c5,c6⟩:=q1.2.2.facts;have av:=q1.2.2.lt;replace q1:=zh q1;clear af am ho
 go_wp2_with fail
 show Code.wp _ _ _ _ _
 go_quiet (fail)
 obtain⟨W,hW⟩:∃W,W=w1.drewN nq:=⟨_,rfl⟩;have qW:Hid (SumBoxes W w.heap.size g1 g2 a b c d):=by rw[hW];exact q1.o
 have ae:Hid (Below w.heap.size w W):=by rw[hW];exact Fk ak.o nq
 rw[<-hW];clear a1 a2 a3 a4 a5 a6 b1 b2 b3 b4 b5 b6 c1 c2 c3 c4 c5 c6 av l0 l1 l2 hW q1 ak;obtain⟨a1,a2,a3,a4,a5,a6⟩:=qW.o.1.facts;obtain⟨b1,b2,b3,b4,b5,b6⟩:=qW.o.2.1.facts
 go_wp2_with fail
 refine(XU (some (a*d)) (some (c*b)) _ (hE.o.below ae.o) (As (by have:=HS.o;omega)) (As (by have:=HS.o;omega))).q fun w2 ag=>?_;rw[hC.o,aq.o];have q2:=qW.o.below ag;have h:=ae.t ag;clear a1 a2 a3 a4 a5 a6 b1 b2 b3 b4 b5 b6 ag;obtain⟨a1,a2,a3,a4,a5,a6⟩:=q2.1.facts;obtain⟨b1,b2,b3,b4,b5,b6⟩:=q2.2.1.facts;replace q2:=zh q2
 go_wp2_with fail
 refine(XT (some (c*b)) (some (a*d)) _ (hE.o.below h.o) (As (by have:=HS.o;omega)) (As (by have:=HS.o;omega))).q fun w3 ah=>?_;rw[al.o.1,al.o.2];have q3:=q2.o.below ah;have aa:=h.t ah;clear a1 a2 a3 a4 a5 a6 b1 b2 b3 b4 b5 b6 ah;obtain⟨a1,a2,a3,a4,a5,a6⟩:=q3.1.facts;obtain⟨b1,b2,b3,b4,b5,b6⟩:=q3.2.1.facts;replace q3:=zh q3
 go_wp2_with fail
 refine(Du g2 (c*b-a*d) (b*d) _ (hE.o.below aa.o) (by have:=HS.o;omega) (by have:=HS.o;omega) aj.o).q fun w4 ai=>?_;have q4:=q3.o.below ai;have ap:=aa.t ai;clear a1 a2 a3 a4 a5 a6 b1 b2 b3 b4 b5 b6 ai;obtain⟨c1,c2,c3,c4,c5,c6⟩:=q4.2.2.facts;replace q4:=zh q4;unfold qv;go_wp2;refine zo (v:=.tuple #[.agg #[.bool (decide ((mkRat (sg g2 (c*b-a*d)) (b*d)).num<0)),.string (T (some (mkRat (sg g2 (c*b-a*d)) (b*d)).num.natAbs)),.string (T (some (mkRat (sg g2 (c*b-a*d)) (b*d)).den))],.int .i64 0]) (by simp[results,results104,go_sem,c1,c2,c3]) rfl ⟨rfl,?_⟩
 repeat refine yI ?_ (by simp only[];omega) _
 exact ap.o
theorem PS(g1 g2:Bool)(a b c d:Nat)(w:World)(hE:Env w)(ha:a<L1)(hb:b<L1)(hc:c<L1)(hd:d<L1)(an:b≠0)(ap:d≠0)(hg:(g1==g2)=false)(hl:c*b<=a*d):
 Calls prog 104 #[.agg #[.bool g1,.string (T (some a)),.string (T (some b))],.agg #[.bool g2,.string (T (some c)),.string (T (some d))]] w fun e w'=>e=.returned (.tuple #[qv (mkRat (sg g1 (a*d-c*b)) (b*d)),.int .i64 0])/\Below w.heap.size w w':=by
 have aj:b*d≠0:=wE an ap;have HS:=zh (And.intro (CA ha hd) (And.intro (CA hc hb) (And.intro (CA hb hd) J6)))
 have HP:Hid (∀p∈[(a,d),(c,b),(b,d)],p.1<Lim/\p.2<Lim/\p.1*p.2<Lim):=by
  have:=HS.o;intro p hp;simp only[xC,yZ,wk]at hp
  rcases hp with rfl|rfl|rfl
  .exact⟨AG ha,AG hd,by show a*d<Lim;omega⟩
  .exact⟨AG hc,AG hb,by show c*b<Lim;omega⟩
  exact⟨AG hb,AG hd,by show b*d<Lim;omega⟩
 have au:Hid (Ey ((DA w g1 g2 a b c d).alloc (.cells #[.string (T (some a)),.string (T (some d)),.string (T (some c)),.string (T (some b)),.string (T (some b)),.string (T (some d))] 192)) (w.heap.size+1+1+1) [(a,d),(c,b),(b,d)]):=by
  have:=Nr (DA w g1 g2 a b c d) a d c b b d
  rwa [show (DA w g1 g2 a b c d).heap.size=w.heap.size+1+1+1 by simp]at this
 have ad:Hid (Below w.heap.size w ((DA w g1 g2 a b c d).alloc (.cells #[.string (T (some a)),.string (T (some d)),.string (T (some c)),.string (T (some b)),.string (T (some b)),.string (T (some d))] 192))):=(BM w g1 g2 a b c d).alloc (BM w g1 g2 a b c d).size _;have av:Hid (SumBoxes ((DA w g1 g2 a b c d).alloc (.cells #[.string (T (some a)),.string (T (some d)),.string (T (some c)),.string (T (some b)),.string (T (some b)),.string (T (some d))] 192)) w.heap.size g1 g2 a b c d):=(SumBoxes.new w g1 g2 a b c d).alloc _;replace hE:=zh hE;replace aj:=zh aj;clear ha hb hc hd an ap;have ar:Hid (Va (some (a*d)) (some (c*b))=0):=rfl;have al:Hid (UY (some (a*d)) (some (c*b))=some (a*d-c*b)/\UZ (some (a*d)) (some (c*b))=0):=⟨zF (by omega),zF (by omega)⟩;obtain⟨cv,ao,ax⟩:∃cv:Int,cv=Sd (some (a*d)) (some (c*b))/\0<=cv:=⟨_,rfl,by show 0<=BF (a*d) (c*b);unfold BF;rw[zE (by omega)];split<;>omega⟩;have hC:Hid (Sd (some (a*d)) (some (c*b))=cv):=ao.symm;clear ao;replace hl:=zh hl;go_enter func104,ntmps104
 go_wp2_with fail
 refine(Db _ (hE.o.below ad.o) (w.heap.size+1+1+1) 3 [(a,d),(c,b),(b,d)] (by simp) (by simp) au.o HP.o).mono ?_;rintro e w1 ⟨⟨v,rfl,ho⟩,af⟩;have am:Ex w1 v [a*d,c*b,b*d]:=Gh ho (by simp);obtain⟨lg,lcap,rfl,l0,l1,l2⟩:=Nq am;have q1:=av.o.below af;have ak:=ad.t af;obtain⟨a1,a2,a3,a4,a5,a6⟩:=q1.1.facts;obtain⟨b1,b2,b3,b4,b5,b6⟩:=q1.2.1.facts;obtain⟨c1,c2,c3,c4,c5,c6⟩:=q1.2.2.facts;have aw:=q1.2.2.lt;replace q1:=zh q1;clear af am ho
 go_wp2_with fail
 show Code.wp _ _ _ _ _
 go_quiet (fail)
 obtain⟨W,hW⟩:∃W,W=w1.drewN nq:=⟨_,rfl⟩;have qW:Hid (SumBoxes W w.heap.size g1 g2 a b c d):=by rw[hW];exact q1.o
 have ae:Hid (Below w.heap.size w W):=by rw[hW];exact Fk ak.o nq
 rw[<-hW];clear a1 a2 a3 a4 a5 a6 b1 b2 b3 b4 b5 b6 c1 c2 c3 c4 c5 c6 aw l0 l1 l2 hW q1 ak;obtain⟨a1,a2,a3,a4,a5,a6⟩:=qW.o.1.facts;obtain⟨b1,b2,b3,b4,b5,b6⟩:=qW.o.2.1.facts
 go_wp2_with fail
 refine(XU (some (a*d)) (some (c*b)) _ (hE.o.below ae.o) (As (by have:=HS.o;omega)) (As (by have:=HS.o;omega))).q fun w2 ag=>?_;rw[hC.o,ar.o];have q2:=qW.o.below ag;have h:=ae.t ag;clear a1 a2 a3 a4 a5 a6 b1 b2 b3 b4 b5 b6 ag;obtain⟨a1,a2,a3,a4,a5,a6⟩:=q2.1.facts;obtain⟨b1,b2,b3,b4,b5,b6⟩:=q2.2.1.facts;replace q2:=zh q2
 go_wp2_with fail
 refine(XT (some (a*d)) (some (c*b)) _ (hE.o.below h.o) (As (by have:=HS.o;omega)) (As (by have:=HS.o;omega))).q fun w3 ah=>?_;rw[al.o.1,al.o.2];have q3:=q2.o.below ah;have aa:=h.t ah;clear a1 a2 a3 a4 a5 a6 b1 b2 b3 b4 b5 b6 ah;obtain⟨a1,a2,a3,a4,a5,a6⟩:=q3.1.facts;obtain⟨b1,b2,b3,b4,b5,b6⟩:=q3.2.1.facts;replace q3:=zh q3
 go_wp2_with fail
 refine(Du g1 (a*d-c*b) (b*d) _ (hE.o.below aa.o) (by have:=HS.o;omega) (by have:=HS.o;omega) aj.o).q fun w4 ai=>?_;have q4:=q3.o.below ai;have aq:=aa.t ai;clear a1 a2 a3 a4 a5 a6 b1 b2 b3 b4 b5 b6 ai;obtain⟨c1,c2,c3,c4,c5,c6⟩:=q4.2.2.facts;replace q4:=zh q4;unfold qv;go_wp2;refine zo (v:=.tuple #[.agg #[.bool (decide ((mkRat (sg g1 (a*d-c*b)) (b*d)).num<0)),.string (T (some (mkRat (sg g1 (a*d-c*b)) (b*d)).num.natAbs)),.string (T (some (mkRat (sg g1 (a*d-c*b)) (b*d)).den))],.int .i64 0]) (by simp[results,results104,go_sem,c1,c2,c3]) rfl ⟨rfl,?_⟩
 repeat refine yI ?_ (by simp only[];omega) _
 exact aq.o
theorem AD(W:World)(B b o:Nat)(x y z:Value)(h:b≠B):(((W.setCell ⟨B,0,none⟩ x).setCell ⟨B,1,none⟩ y).setCell ⟨B,2,none⟩ z).cell? ⟨b,o,none⟩=W.cell? ⟨b,o,none⟩ :=
 zU (w:=W) (a:=⟨b,o,none⟩) (((zg _ _ _ _ (by exact h)).trans (zg _ _ _ _ (by exact h))).trans (zg _ _ _ _ (by exact h)))
theorem Hg(g1 g2:Bool)(a b c d:Nat)(w:World)(hE:Env w)(ha:a<Lim)(hb:b<Lim)(hc:c<Lim)(hd:d<Lim)(ad:a*c<Lim)(af:b*d<Lim)(h0:b*d≠0):
 Calls prog 102 #[.agg #[.bool g1,.string (T (some a)),.string (T (some b))],.agg #[.bool g2,.string (T (some c)),.string (T (some d))]] w fun e w'=>e=.returned (.tuple #[qv (mkRat (sg (!(g1==g2)) (a*c)) (b*d)),.int .i64 0])/\Below w.heap.size w w':=by
 have HP:Hid (∀p∈[(a,c),(b,d)],p.1<Lim/\p.2<Lim/\p.1*p.2<Lim):=by
  intro p hp;simp only[xC,yZ,wk]at hp
  rcases hp with rfl|rfl
  .exact⟨ha,hc,ad⟩
  exact⟨hb,hd,af⟩
 have ak:Hid (Ey ((DA w g1 g2 a b c d).alloc (.cells #[.string (T (some a)),.string (T (some c)),.string (T (some b)),.string (T (some d))] 192)) (w.heap.size+1+1+1) [(a,c),(b,d)]):=by
  have:=WS (DA w g1 g2 a b c d) a c b d
  rwa [show (DA w g1 g2 a b c d).heap.size=w.heap.size+1+1+1 by simp]at this
 have ag:Hid (Below w.heap.size w ((DA w g1 g2 a b c d).alloc (.cells #[.string (T (some a)),.string (T (some c)),.string (T (some b)),.string (T (some d))] 192))):=(BM w g1 g2 a b c d).alloc (BM w g1 g2 a b c d).size _;have al:Hid (SumBoxes ((DA w g1 g2 a b c d).alloc (.cells #[.string (T (some a)),.string (T (some c)),.string (T (some b)),.string (T (some d))] 192)) w.heap.size g1 g2 a b c d):=(SumBoxes.new w g1 g2 a b c d).alloc _;replace hE:=zh hE;replace h0:=zh h0;replace ad:=zh ad;replace af:=zh af;clear ha hb hc hd;go_enter func102,ntmps102
 go_wp2_with fail
 refine(Db _ (hE.o.below ag.o) (w.heap.size+1+1+1) 2 [(a,c),(b,d)] (by simp) (by simp) ak.o HP.o).mono ?_;rintro e w1 ⟨⟨v,rfl,ho⟩,ah⟩;have ai:Ex w1 v [a*c,b*d]:=Gh ho (by simp);obtain⟨lg,lcap,rfl,aj,l0,l1⟩:=WR ai
 have am:w.heap.size+1+1+1<lg:=by
  have h1:=(ho.lt lg rfl).1;simp at h1;omega
 have q1:=al.o.below ah;have aa:=ag.t ah;obtain⟨a1,a2,a3,a4,a5,a6⟩:=q1.1.facts;obtain⟨b1,b2,b3,b4,b5,b6⟩:=q1.2.1.facts;obtain⟨c1,c2,c3,c4,c5,c6⟩:=q1.2.2.facts;have an:=q1.2.2.lt;replace q1:=zh q1;clear ah ai ho
 go_wp2_with fail
 have hl:=fun W (h:Below w1.heap.size w1 W)=>Du (!(g1==g2)) (a*c) (b*d) W (hE.o.below (aa.o.trans (h.mono aa.o.size))) ad.o af.o h0.o;simp only[qv]at hl;have q1d:Hid (SumBoxes w1.drew w.heap.size g1 g2 a b c d):=q1.o
 go_region_held3 (fun w'=>w'.cell? ⟨w.heap.size,0,none⟩=some (.bool g1)/\w'.cell? ⟨w.heap.size+1,0,none⟩=some (.bool g2)/\w'.cell? ⟨lg,0,none⟩=some (.string (T (some (a*c))))/\w'.cell? ⟨lg,1,none⟩=some (.string (T (some (b*d))))) (first|exact⟨a1,b1,l0,l1⟩|exact⟨k1,k2,k3,k4⟩|exact⟨(AD _ _ _ _ _ _ _ (by omega)).trans k1,(AD _ _ _ _ _ _ _ (by omega)).trans k2,(AD _ _ _ _ _ _ _ (by omega)).trans k3,(AD _ _ _ _ _ _ _ (by omega)).trans k4⟩|go_keep)
  (first|(go_at_call 108;refine(hl _ ?_).mono ?_;(exact(zI _ _).drew);rintro e w2 ⟨rfl,ae⟩;have q2:=q1d.o.below ae;obtain⟨c1',c2',c3',c4',c5',c6'⟩:=q2.2.2.facts;have k1:=q2.1.facts.1;have k2:=q2.2.1.facts.1;have k3:=(ae.cell (p:=⟨lg,0,none⟩) aj).trans l0;have k4:=(ae.cell (p:=⟨lg,1,none⟩) aj).trans l1))
 go_wp2;refine zo (v:=.tuple #[.agg #[.bool (decide ((mkRat (sg (!(g1==g2)) (a*c)) (b*d)).num<0)),.string (T (some (mkRat (sg (!(g1==g2)) (a*c)) (b*d)).num.natAbs)),.string (T (some (mkRat (sg (!(g1==g2)) (a*c)) (b*d)).den))],.int .i64 0]) (by simp[results,results102,go_sem,c1',c2',c3']) rfl ⟨rfl,?_⟩
 repeat refine yI ?_ (by simp only[];omega) _
 exact(aa.o.drew).trans (ae.mono aa.o.size)
theorem Ve(g:Bool)(n d:ByteArray)(w:World):
 Calls prog 123 #[.agg #[.bool g,.string n,.string d]] w fun e w'=>e=.returned (.agg #[.bool (!g&&!(n.toList==[48])),.string n,.string d])/\Below w.heap.size w w':=by
 cases g with
 |true=>
  go_enter func123,ntmps123;go_wp2;refine zo (v:=.agg #[.bool false,.string n,.string d]) (by simp[results,results123,go_sem]) rfl ⟨rfl,?_⟩
  repeat refine yI ?_ (by simp only[];omega) _
  exact((zI _ w).alloc (zB _) _).alloc (by simp) _
 |false=>
  cases hz:(n.toList==[48]) with
  |true=>
   go_enter func123,ntmps123;go_wp2;refine zo (v:=.agg #[.bool false,.string n,.string d]) (by simp[results,results123,go_sem]) rfl ⟨rfl,?_⟩
   repeat refine yI ?_ (by simp only[];omega) _
   exact((zI _ w).alloc (zB _) _).alloc (by simp) _
  |false=>
   go_enter func123,ntmps123;go_wp2;refine zo (v:=.agg #[.bool true,.string n,.string d]) (by simp[results,results123,go_sem]) rfl ⟨rfl,?_⟩
   repeat refine yI ?_ (by simp only[];omega) _
   exact((zI _ w).alloc (zB _) _).alloc (by simp) _
theorem Wp(p q:Rat)(hp:ShortQ p)(hq:ShortQ q)(w:World)(hE:Env w):
 Calls prog 104 #[qv p,qv q] w fun e w'=>e=.returned (.tuple #[qv (p+q),.int .i64 0])/\Below w.heap.size w w':=by
 by_cases hg:decide (p.num<0)=decide (q.num<0)
 .have h:=PQ (decide (p.num<0)) p.num.natAbs p.den q.num.natAbs q.den w hE hp.1 hp.2 hq.1 hq.2 p.den_nz q.den_nz;rw[Sn rfl hg rfl rfl,KC]at h;have e:qv q=.agg #[.bool (decide (p.num<0)),.string (T (some q.num.natAbs)),.string (T (some q.den))]:=by rw[hg];rfl
  rw[e];exact h
 have d:(decide (p.num<0)==decide (q.num<0))=false:=by rw[zN];exact hg
 rcases vQ (p.num.natAbs*q.den) (q.num.natAbs*p.den) with hl|hl
 .have h:=PR (decide (p.num<0)) (decide (q.num<0)) p.num.natAbs p.den q.num.natAbs q.den w hE hp.1 hp.2 hq.1 hq.2 p.den_nz q.den_nz d hl;rw[So rfl rfl rfl rfl hg hl,KC]at h;exact h
 have h:=PS (decide (p.num<0)) (decide (q.num<0)) p.num.natAbs p.den q.num.natAbs q.den w hE hp.1 hp.2 hq.1 hq.2 p.den_nz q.den_nz d hl;rw[Sp rfl rfl rfl rfl hg hl,KC]at h;exact h
theorem PT(p q:Rat)(hp:ShortQ p)(hq:ShortQ q)(w:World)(hE:Env w):
 Calls prog 102 #[qv p,qv q] w fun e w'=>e=.returned (.tuple #[qv (p*q),.int .i64 0])/\Below w.heap.size w w':=by
 have h1:=CA hp.1 hq.1;have h2:=CA hp.2 hq.2;have h3:=J6;have h:=Hg (decide (p.num<0)) (decide (q.num<0)) p.num.natAbs p.den q.num.natAbs q.den w hE (AG hp.1) (AG hp.2) (AG hq.1) (AG hq.2) (by omega) (by omega) (wE p.den_nz q.den_nz);have e:=WL p q;rw[show (decide (p.num<0) != decide (q.num<0))=!(decide (p.num<0)==decide (q.num<0)) from rfl]at e;rw[e]at h;exact h
theorem Ns(p q:Rat)(hp:ShortQ p)(hq:ShortQ q)(h0:q.num≠0)(w:World)(hE:Env w):
 Calls prog 102 #[qv p,.agg #[.bool (decide (q.num<0)),.string (T (some q.den)),.string (T (some q.num.natAbs))]] w fun e w'=>e=.returned (.tuple #[qv (p/q),.int .i64 0])/\Below w.heap.size w w':=by
 have h1:=CA hp.1 hq.2;have h2:=CA hp.2 hq.1;have h3:=J6;have h:=Hg (decide (p.num<0)) (decide (q.num<0)) p.num.natAbs p.den q.den q.num.natAbs w hE (AG hp.1) (AG hp.2) (AG hq.2) (AG hq.1) (by omega) (by omega) (wE p.den_nz (by omega));have e:=Sq p q;rw[show (decide (p.num<0) != decide (q.num<0))=!(decide (p.num<0)==decide (q.num<0)) from rfl]at e;rw[e]at h;exact h
theorem WT(q:Rat):(.agg #[.bool (!decide (q.num<0)&&!((T (some q.num.natAbs)).toList==[48])),.string (T (some q.num.natAbs)),.string (T (some q.den))]:Value)=qv (-q):=by
 unfold qv;rw[Bp];have e1:(-q).num=-q.num:=rfl;have e2:(-q).den=q.den:=rfl;rw[e1,e2,Int.natAbs_neg]
 have e3:(!decide (q.num<0)&&!decide (q.num.natAbs=0))=decide (-q.num<0):=by
  generalize q.num=z;rw[xp];simp;omega
 rw[e3]
theorem XY(q:Rat)(w:World):
 Calls prog 123 #[qv q] w fun e w'=>e=.returned (qv (-q))/\Below w.heap.size w w':=by
 refine(Ve (decide (q.num<0)) (T (some q.num.natAbs)) (T (some q.den)) w).q fun w' hb=>?_;exact⟨by rw[WT],hb⟩
theorem ShortQ.neg{q:Rat}(h:ShortQ q):ShortQ (-q):=⟨by show (-q.num).natAbs<L1;rw[Int.natAbs_neg];exact h.1,h.2⟩
abbrev Vf(w:World)(g1 g2:Bool)(n1 d1 n2 d2:ByteArray):World :=
 ((w.alloc (.cells #[.bool g1,.string n1,.string d1] 48)).alloc (.cells #[.bool g2,.string n2,.string d2] 48)).alloc (.cells #[.bool false,.string ⟨#[]⟩,.string ⟨#[]⟩] 48)
def TwoBoxes(W:World)(B:Nat)(g1 g2:Bool)(n1 d1 n2 d2:ByteArray):Prop:=B3 W B g1 n1 d1/\B3 W (B+1) g2 n2 d2/\B3 W (B+1+1) false ⟨#[]⟩ ⟨#[]⟩
theorem TwoBoxes.new(w:World)(g1 g2:Bool)(n1 d1 n2 d2:ByteArray):TwoBoxes (Vf w g1 g2 n1 d1 n2 d2) w.heap.size g1 g2 n1 d1 n2 d2:=by
 have e1:(w.alloc (.cells #[.bool g1,.string n1,.string d1] 48)).heap.size=w.heap.size+1:=by simp
 have e2:((w.alloc (.cells #[.bool g1,.string n1,.string d1] 48)).alloc (.cells #[.bool g2,.string n2,.string d2] 48)).heap.size=w.heap.size+1+1:=by simp
 refine⟨((B3.new w _ _ _).alloc _).alloc _,?_,?_⟩
 .have h:=B3.new (w.alloc (.cells #[.bool g1,.string n1,.string d1] 48)) g2 n2 d2;rw[e1]at h;exact h.alloc _
 have h:=B3.new ((w.alloc (.cells #[.bool g1,.string n1,.string d1] 48)).alloc (.cells #[.bool g2,.string n2,.string d2] 48)) false ⟨#[]⟩ ⟨#[]⟩;rw[e2]at h;exact h
theorem CC(w:World)(g1 g2:Bool)(n1 d1 n2 d2:ByteArray):Below w.heap.size w (Vf w g1 g2 n1 d1 n2 d2) :=
 (((zI _ w).alloc (zB _) _).alloc (by simp) _).alloc (by simp;omega) _
theorem TwoBoxes.below{W W':World}{B:Nat}{g1 g2:Bool}{n1 d1 n2 d2:ByteArray}(h:TwoBoxes W B g1 g2 n1 d1 n2 d2)(hb:Below W.heap.size W W'):TwoBoxes W' B g1 g2 n1 d1 n2 d2:=⟨h.1.below hb,h.2.1.below hb,h.2.2.below hb⟩
theorem WU(p q:Rat)(hp:ShortQ p)(hq:ShortQ q)(h0:q.num≠0)(w:World)(hE:Env w):
 Calls prog 121 #[qv p,qv q] w fun e w'=>e=.returned (.tuple #[qv (p/q),.int .i64 0])/\Below w.heap.size w w':=by
 have hc:=fun W (h:Env W)=>Ns p q hp hq h0 W h;have ae:=zh (TwoBoxes.new w (decide (p.num<0)) (decide (q.num<0)) (T (some p.num.natAbs)) (T (some p.den)) (T (some q.num.natAbs)) (T (some q.den)));have d:=zh (CC w (decide (p.num<0)) (decide (q.num<0)) (T (some p.num.natAbs)) (T (some p.den)) (T (some q.num.natAbs)) (T (some q.den)));simp only[qv]at hc ⊢;replace hE:=zh hE;replace hc:=zh hc;clear hp hq h0;go_enter func121,ntmps121
 go_wp2_with fail
 refine(hc.o _ (hE.o.below d.o)).q fun w1 aa=>?_;have q1:=ae.o.below aa;have ad:=d.t aa;obtain⟨c1,c2,c3,c4,c5,c6⟩:=q1.2.2.facts;have af:=q1.2.2.lt;clear aa;replace q1:=zh q1;go_wp2;refine zo (v:=.tuple #[.agg #[.bool (decide ((p/q).num<0)),.string (T (some (p/q).num.natAbs)),.string (T (some (p/q).den))],.int .i64 0]) (by simp[results,results121,go_sem,c1,c2,c3]) rfl ⟨rfl,?_⟩
 repeat refine yI ?_ (by simp only[];omega) _
 exact ad.o
theorem TwoBoxes.six{W:World}{B:Nat}{g1 g2:Bool}{n1 d1 n2 d2:ByteArray}(h:TwoBoxes W B g1 g2 n1 d1 n2 d2):
 W.cell? ⟨B,0,none⟩=some (.bool g1)/\W.cell? ⟨B,1,none⟩=some (.string n1)/\W.cell? ⟨B,2,none⟩=some (.string d1) /\
 W.cell? ⟨B+1,0,none⟩=some (.bool g2)/\W.cell? ⟨B+1,1,none⟩=some (.string n2)/\W.cell? ⟨B+1,2,none⟩=some (.string d2) :=
 ⟨h.1.facts.1,h.1.facts.2.1,h.1.facts.2.2.1,h.2.1.facts.1,h.2.1.facts.2.1,h.2.1.facts.2.2.1⟩
theorem TwoBoxes.six_set{W:World}{B:Nat}{g1 g2:Bool}{n1 d1 n2 d2:ByteArray}(h:TwoBoxes W B g1 g2 n1 d1 n2 d2)(x y z:Value):
 (((W.setCell ⟨B+1+1,0,none⟩ x).setCell ⟨B+1+1,1,none⟩ y).setCell ⟨B+1+1,2,none⟩ z).cell? ⟨B,0,none⟩=some (.bool g1)/\(((W.setCell ⟨B+1+1,0,none⟩ x).setCell ⟨B+1+1,1,none⟩ y).setCell ⟨B+1+1,2,none⟩ z).cell? ⟨B,1,none⟩=some (.string n1)/\(((W.setCell ⟨B+1+1,0,none⟩ x).setCell ⟨B+1+1,1,none⟩ y).setCell ⟨B+1+1,2,none⟩ z).cell? ⟨B,2,none⟩=some (.string d1) /\
 (((W.setCell ⟨B+1+1,0,none⟩ x).setCell ⟨B+1+1,1,none⟩ y).setCell ⟨B+1+1,2,none⟩ z).cell? ⟨B+1,0,none⟩=some (.bool g2)/\(((W.setCell ⟨B+1+1,0,none⟩ x).setCell ⟨B+1+1,1,none⟩ y).setCell ⟨B+1+1,2,none⟩ z).cell? ⟨B+1,1,none⟩=some (.string n2)/\(((W.setCell ⟨B+1+1,0,none⟩ x).setCell ⟨B+1+1,1,none⟩ y).setCell ⟨B+1+1,2,none⟩ z).cell? ⟨B+1,2,none⟩=some (.string d2):=by
 obtain⟨h1,h2,h3,h4,h5,h6⟩:=h.six;exact⟨(AD _ _ _ _ _ _ _ (by omega)).trans h1,(AD _ _ _ _ _ _ _ (by omega)).trans h2,(AD _ _ _ _ _ _ _ (by omega)).trans h3,(AD _ _ _ _ _ _ _ (by omega)).trans h4,(AD _ _ _ _ _ _ _ (by omega)).trans h5,(AD _ _ _ _ _ _ _ (by omega)).trans h6⟩
theorem WV(g1 g2 g3:Bool)(n1 d1 n2 d2:ByteArray)(r:Bool)(n d:ByteArray)(E:Int)(w:World)(hE:Env w)
 (ho:∀W,Calls prog 123 #[.agg #[.bool g2,.string n2,.string d2]] W fun e w'=>e=.returned (.agg #[.bool g3,.string n2,.string d2])/\Below W.heap.size W w')
 (hc:∀W,Env W->Calls prog 104 #[.agg #[.bool g1,.string n1,.string d1],.agg #[.bool g3,.string n2,.string d2]] W fun e w'=>e=.returned (.tuple #[.agg #[.bool r,.string n,.string d],.int .i64 E])/\Below W.heap.size W w'):
 Calls prog 122 #[.agg #[.bool g1,.string n1,.string d1],.agg #[.bool g2,.string n2,.string d2]] w fun e w'=>e=.returned (.tuple #[.agg #[.bool r,.string n,.string d],.int .i64 E])/\Below w.heap.size w w':=by
 have aa:=zh (TwoBoxes.new w g1 g2 n1 d1 n2 d2);have ah:=zh (CC w g1 g2 n1 d1 n2 d2);obtain⟨W0,h⟩:∃W0,W0=Vf w g1 g2 n1 d1 n2 d2:=⟨_,rfl⟩;rw[<-h]at aa ah;simp only[Vf]at h;have q0d:Hid (TwoBoxes W0.drew w.heap.size g1 g2 n1 d1 n2 d2):=aa.o;have ag:Hid (Below w.heap.size w W0.drew):=ah.o.drew;replace hE:=zh hE;replace h:=zh h;replace ho:=zh ho;replace hc:=zh hc;go_enter func122,ntmps122
 go_wp2_with fail
 rw[<-h.o];obtain⟨a1,a2,a3,b1,b2,b3⟩:=aa.o.six
 go_region_held3 (fun w'=>w'.cell? ⟨w.heap.size,0,none⟩=some (.bool g1)/\w'.cell? ⟨w.heap.size,1,none⟩=some (.string n1)/\w'.cell? ⟨w.heap.size,2,none⟩=some (.string d1)/\w'.cell? ⟨w.heap.size+1,0,none⟩=some (.bool g2)/\w'.cell? ⟨w.heap.size+1,1,none⟩=some (.string n2)/\w'.cell? ⟨w.heap.size+1,2,none⟩=some (.string d2)) (first|(with_reducible exact aa.o.six)|(with_reducible exact q0d.o.six)|(with_reducible exact q2.o.six)|(with_reducible exact q3.o.six)|(with_reducible exact q3.o.six_set _ _ _)|go_keep)
  (first
    |(go_at_call 123;refine(ho.o _).q fun w2 ae=>?_;have q2:=zh (q0d.o.below ae);have ad:=ag.t ae;clear ae)
    |(go_at_call 104;refine(hc.o _ ?_).mono ?_;(exact hE.o.below ad.o);rintro e w3 ⟨rfl,af⟩;have q3:=zh (q2.o.below af);obtain⟨c1,c2,c3,c4,c5,c6⟩:=q3.o.2.2.facts;have ai:=ad.t af;clear af))
 go_wp2;refine zo (v:=.tuple #[.agg #[.bool r,.string n,.string d],.int .i64 E]) (by simp[results,results122,go_sem,c1,c2,c3]) rfl ⟨rfl,?_⟩
 repeat refine yI ?_ (by simp only[];omega) _
 exact ai.o
theorem WW(p q:Rat)(hp:ShortQ p)(hq:ShortQ q)(w:World)(hE:Env w):
 Calls prog 122 #[qv p,qv q] w fun e w'=>e=.returned (.tuple #[qv (p-q),.int .i64 0])/\Below w.heap.size w w':=by
 have hc:=fun W (h:Env W)=>Wp p (-q) hp hq.neg W h;rw[<-Rat.sub_eq_add_neg]at hc;have ho:=fun W=>XY q W
 have e:qv (-q)=.agg #[.bool (decide ((-q).num<0)),.string (T (some q.num.natAbs)),.string (T (some q.den))]:=by
  unfold qv;rw[show (-q).num.natAbs=q.num.natAbs from Int.natAbs_neg _];rfl
 rw[e]at hc ho;exact WV _ _ _ _ _ _ _ _ _ _ _ w hE ho hc
def B2(W:World)(b:Nat)(z:Bool)(f:Nat):Prop:=W.heap[b]? = some (.cells #[.bool z,.func (.func f) #[] #[]] 161 (0,0))
theorem B2.lt{W:World}{b:Nat}{z:Bool}{f:Nat}(h:B2 W b z f):b<W.heap.size:=(Array.getElem?_eq_some_iff.1 h).1
theorem B2.facts{W:World}{b:Nat}{z:Bool}{f:Nat}(h:B2 W b z f):W.cell? ⟨b,0,none⟩=some (.bool z)/\W.cell? ⟨b,1,none⟩=some (.func (.func f) #[] #[]):=by
 unfold B2 at h;simp[World.cell?,h]
theorem B2.below{W W':World}{b:Nat}{z:Bool}{f:Nat}(h:B2 W b z f)(hb:Below W.heap.size W W'):B2 W' b z f:=(hb.block b h.lt).trans h
def RunBoxes(W:World)(B:Nat)(z:Bool)(f:Nat)(g1 g2:Bool)(n1 d1 n2 d2:ByteArray):Prop :=
 B2 W B z f/\B3 W (B+1) g1 n1 d1/\B3 W (B+2) g2 n2 d2/\B3 W (B+3) false ⟨#[]⟩ ⟨#[]⟩
theorem RunBoxes.new(w:World)(z:Bool)(f:Nat)(g1 g2:Bool)(n1 d1 n2 d2:ByteArray):
 RunBoxes ((((w.alloc (.cells #[.bool z,.func (.func f) #[] #[]] 161)).alloc (.cells #[.bool g1,.string n1,.string d1] 48)).alloc (.cells #[.bool g2,.string n2,.string d2] 48)).alloc (.cells #[.bool false,.string ⟨#[]⟩,.string ⟨#[]⟩] 48)) w.heap.size z f g1 g2 n1 d1 n2 d2:=by
 have e1:(w.alloc (.cells #[.bool z,.func (.func f) #[] #[]] 161)).heap.size=w.heap.size+1:=by simp
 have e2:((w.alloc (.cells #[.bool z,.func (.func f) #[] #[]] 161)).alloc (.cells #[.bool g1,.string n1,.string d1] 48)).heap.size=w.heap.size+2:=by simp
 have e3:(((w.alloc (.cells #[.bool z,.func (.func f) #[] #[]] 161)).alloc (.cells #[.bool g1,.string n1,.string d1] 48)).alloc (.cells #[.bool g2,.string n2,.string d2] 48)).heap.size=w.heap.size+3:=by simp
 refine⟨?_,?_,?_,?_⟩
 .unfold B2;rw[yP _ _ _ (by rw[e3];omega),yP _ _ _ (by rw[e2];omega),yP _ _ _ (by rw[e1];omega)];exact ym _ _
 .have h:=B3.new (w.alloc (.cells #[.bool z,.func (.func f) #[] #[]] 161)) g1 n1 d1;rw[e1]at h;exact(h.alloc _).alloc _
 .have h:=B3.new ((w.alloc (.cells #[.bool z,.func (.func f) #[] #[]] 161)).alloc (.cells #[.bool g1,.string n1,.string d1] 48)) g2 n2 d2;rw[e2]at h;exact h.alloc _
 have h:=B3.new (((w.alloc (.cells #[.bool z,.func (.func f) #[] #[]] 161)).alloc (.cells #[.bool g1,.string n1,.string d1] 48)).alloc (.cells #[.bool g2,.string n2,.string d2] 48)) false ⟨#[]⟩ ⟨#[]⟩;rw[e3]at h;exact h
theorem RunBoxes.below{W W':World}{B:Nat}{z:Bool}{f:Nat}{g1 g2:Bool}{n1 d1 n2 d2:ByteArray}(h:RunBoxes W B z f g1 g2 n1 d1 n2 d2)(hb:Below W.heap.size W W'):RunBoxes W' B z f g1 g2 n1 d1 n2 d2 :=
 ⟨h.1.below hb,h.2.1.below hb,h.2.2.1.below hb,h.2.2.2.below hb⟩
theorem A5(w:World)(o1 o2 o3 o4:Obj):Below w.heap.size w ((((w.alloc o1).alloc o2).alloc o3).alloc o4) :=
 ((((zI _ w).alloc (zB _) _).alloc (by simp) _).alloc (by simp;omega) _).alloc (by simp;omega) _
theorem XZ(z:Bool)(f:Nat)(g1 g2:Bool)(n1 d1 n2 d2:ByteArray)(w:World)(hE:Env w)(s1:n1.size<=140737488355328)(s2:d1.size<=140737488355328)(_s3:n2.size<=140737488355328)(_s4:d2.size<=140737488355328)(v1:A4 g1 n1 d1=false):
 Calls prog 103 #[.agg #[.bool z,.func (.func f) #[] #[]],.agg #[.bool g1,.string n1,.string d1],.agg #[.bool g2,.string n2,.string d2]] w fun e w'=>e=.returned (.tuple #[.agg #[.bool false,.string ⟨#[]⟩,.string ⟨#[]⟩],.int .i64 1])/\Below w.heap.size w w':=by
 have V1:=zh v1;clear v1;replace hE:=zh hE;go_enter func103,ntmps103
 go_wp2_with fail
 refine(AL g1 n1 d1 _ (hE.o.below (A5 w _ _ _ _)) s1 s2).q fun w1 d=>?_;rw[V1.o];have q1:=(RunBoxes.new w z f g1 g2 n1 d1 n2 d2).below d;have h:=zh ((A5 w _ _ _ _).trans (d.mono (A5 w _ _ _ _).size));obtain⟨a1,a2⟩:=q1.1.facts;obtain⟨b1,b2,b3,b4,b5,b6⟩:=q1.2.1.facts;obtain⟨c1,c2,c3,c4,c5,c6⟩:=q1.2.2.1.facts;obtain⟨d1',d2',d3,d4,d5,d6⟩:=q1.2.2.2.facts;have aa:=q1.2.2.2.lt;replace q1:=zh q1;clear d;go_wp2;refine zo (v:=.tuple #[.agg #[.bool false,.string ⟨#[]⟩,.string ⟨#[]⟩],.int .i64 1]) (by simp[results,results103,go_sem,d1',d2',d3]) rfl ⟨rfl,?_⟩
 repeat refine yI ?_ (by simp only[];omega) _
 exact h.o
theorem Ya(z:Bool)(f:Nat)(g1 g2:Bool)(n1 d1 n2 d2:ByteArray)(w:World)(hE:Env w)(s1:n1.size<=140737488355328)(s2:d1.size<=140737488355328)(s3:n2.size<=140737488355328)(s4:d2.size<=140737488355328)(v1:A4 g1 n1 d1=true)(v2:A4 g2 n2 d2=false):
 Calls prog 103 #[.agg #[.bool z,.func (.func f) #[] #[]],.agg #[.bool g1,.string n1,.string d1],.agg #[.bool g2,.string n2,.string d2]] w fun e w'=>e=.returned (.tuple #[.agg #[.bool false,.string ⟨#[]⟩,.string ⟨#[]⟩],.int .i64 1])/\Below w.heap.size w w':=by
 have V1:=zh v1;clear v1;have V2:=zh v2;clear v2;replace hE:=zh hE;go_enter func103,ntmps103
 go_wp2_with fail
 refine(AL g1 n1 d1 _ (hE.o.below (A5 w _ _ _ _)) s1 s2).q fun w1 h=>?_;rw[V1.o];have q1:=(RunBoxes.new w z f g1 g2 n1 d1 n2 d2).below h;have d:=zh ((A5 w _ _ _ _).trans (h.mono (A5 w _ _ _ _).size));obtain⟨a1,a2⟩:=q1.1.facts;obtain⟨b1,b2,b3,b4,b5,b6⟩:=q1.2.1.facts;obtain⟨c1,c2,c3,c4,c5,c6⟩:=q1.2.2.1.facts;obtain⟨d1',d2',d3,d4,d5,d6⟩:=q1.2.2.2.facts;have ae:=q1.2.2.2.lt;replace q1:=zh q1;clear h
 go_wp2_with fail
 refine(AL g2 n2 d2 _ (hE.o.below d.o) s3 s4).q fun w2 aa=>?_;rw[V2.o];have q2:=q1.o.below aa;have ad:=d.t aa;clear a1 a2 b1 b2 b3 b4 b5 b6 c1 c2 c3 c4 c5 c6 d1' d2' d3 d4 d5 d6 aa q1;obtain⟨a1,a2⟩:=q2.1.facts;obtain⟨b1,b2,b3,b4,b5,b6⟩:=q2.2.1.facts;obtain⟨c1,c2,c3,c4,c5,c6⟩:=q2.2.2.1.facts;obtain⟨d1',d2',d3,d4,d5,d6⟩:=q2.2.2.2.facts;have af:=q2.2.2.2.lt;replace q2:=zh q2;go_wp2;refine zo (v:=.tuple #[.agg #[.bool false,.string ⟨#[]⟩,.string ⟨#[]⟩],.int .i64 1]) (by simp[results,results103,go_sem,d1',d2',d3]) rfl ⟨rfl,?_⟩
 repeat refine yI ?_ (by simp only[];omega) _
 exact ad.o
theorem Gi(z:Bool)(f:Nat)(g1 g2:Bool)(n1 d1 n2 d2:ByteArray)(w:World)(hE:Env w)(s1:n1.size<=140737488355328)(s2:d1.size<=140737488355328)(s3:n2.size<=140737488355328)(s4:d2.size<=140737488355328)(v1:A4 g1 n1 d1=true)(v2:A4 g2 n2 d2=true)(hz:z=false\/(z=true/\(n2.toList==[48])=false))(hl:¬(n1.size<=140/\d1.size<=140/\n2.size<=140/\d2.size<=140)):
 Calls prog 103 #[.agg #[.bool z,.func (.func f) #[] #[]],.agg #[.bool g1,.string n1,.string d1],.agg #[.bool g2,.string n2,.string d2]] w fun e w'=>e=.returned (.tuple #[.agg #[.bool false,.string ⟨#[]⟩,.string ⟨#[]⟩],.int .i64 2])/\Below w.heap.size w w':=by
 have V1:=zh v1;clear v1;have V2:=zh v2;clear v2
 rcases hz with rfl|⟨rfl,h0⟩
 all_goals
 have hk:140<n1.size\/(n1.size<=140/\140<d1.size)\/(n1.size<=140/\d1.size<=140/\140<n2.size)\/(n1.size<=140/\d1.size<=140/\n2.size<=140/\140<d2.size):=by omega
 clear hl
 rcases hk with l1|⟨l1,l2⟩|⟨l1,l2,l3⟩|⟨l1,l2,l3,l4⟩
 all_goals
  replace hE:=zh hE;go_enter func103,ntmps103
  go_wp2_with fail
  refine(AL g1 n1 d1 _ (hE.o.below (A5 w _ _ _ _)) s1 s2).q fun w1 h=>?_;rw[V1.o];have q1:=(RunBoxes.new w _ f g1 g2 n1 d1 n2 d2).below h;have d:=zh ((A5 w _ _ _ _).trans (h.mono (A5 w _ _ _ _).size));obtain⟨a1,a2⟩:=q1.1.facts;obtain⟨b1,b2,b3,b4,b5,b6⟩:=q1.2.1.facts;obtain⟨c1,c2,c3,c4,c5,c6⟩:=q1.2.2.1.facts;obtain⟨d1',d2',d3,d4,d5,d6⟩:=q1.2.2.2.facts;have ae:=q1.2.2.2.lt;replace q1:=zh q1;clear h
  go_wp2_with fail
  refine(AL g2 n2 d2 _ (hE.o.below d.o) s3 s4).q fun w2 aa=>?_;rw[V2.o];have q2:=q1.o.below aa;have ad:=d.t aa;clear a1 a2 b1 b2 b3 b4 b5 b6 c1 c2 c3 c4 c5 c6 d1' d2' d3 d4 d5 d6 aa q1;obtain⟨a1,a2⟩:=q2.1.facts;obtain⟨b1,b2,b3,b4,b5,b6⟩:=q2.2.1.facts;obtain⟨c1,c2,c3,c4,c5,c6⟩:=q2.2.2.1.facts;obtain⟨d1',d2',d3,d4,d5,d6⟩:=q2.2.2.2.facts;have af:=q2.2.2.2.lt;replace q2:=zh q2;go_wp2;refine zo (v:=.tuple #[.agg #[.bool false,.string ⟨#[]⟩,.string ⟨#[]⟩],.int .i64 2]) (by simp[results,results103,go_sem,d1',d2',d3]) rfl ⟨rfl,?_⟩
  repeat refine yI ?_ (by simp only[];omega) _
  exact ad.o
theorem Vg(g1 g2:Bool)(n1 d1 n2 d2:ByteArray)(w:World)(hE:Env w)(s1:n1.size<=140737488355328)(s2:d1.size<=140737488355328)(s3:n2.size<=140737488355328)(s4:d2.size<=140737488355328)(v1:A4 g1 n1 d1=true)(v2:A4 g2 n2 d2=true)(l1:n1.size<=140)(l2:d1.size<=140)(l3:n2.size<=140)(l4:d2.size<=140)(r:Bool)(n d:ByteArray)(E:Int)
 (hf:∀W,Env W->Calls prog 104 #[.agg #[.bool g1,.string n1,.string d1],.agg #[.bool g2,.string n2,.string d2]] W fun e w'=>e=.returned (.tuple #[.agg #[.bool r,.string n,.string d],.int .i64 E])/\Below W.heap.size W w'):
 Calls prog 103 #[.agg #[.bool false,.func (.func 104) #[] #[]],.agg #[.bool g1,.string n1,.string d1],.agg #[.bool g2,.string n2,.string d2]] w fun e w'=>e=.returned (.tuple #[.agg #[.bool r,.string n,.string d],.int .i64 E])/\Below w.heap.size w w':=by
 have V1:=zh v1;clear v1;have V2:=zh v2;clear v2;have HF:=zh hf;clear hf;replace hE:=zh hE;go_enter func103,ntmps103
 go_wp2_with fail
 refine(AL g1 n1 d1 _ (hE.o.below (A5 w _ _ _ _)) s1 s2).q fun w1 ad=>?_;rw[V1.o];have q1:=(RunBoxes.new w _ _ g1 g2 n1 d1 n2 d2).below ad;have h:=zh ((A5 w _ _ _ _).trans (ad.mono (A5 w _ _ _ _).size));obtain⟨a1,a2⟩:=q1.1.facts;obtain⟨b1,b2,b3,b4,b5,b6⟩:=q1.2.1.facts;obtain⟨c1,c2,c3,c4,c5,c6⟩:=q1.2.2.1.facts;obtain⟨d1',d2',d3,d4,d5,d6⟩:=q1.2.2.2.facts;have ah:=q1.2.2.2.lt;replace q1:=zh q1;clear ad
 go_wp2_with fail
 refine(AL g2 n2 d2 _ (hE.o.below h.o) s3 s4).q fun w2 ae=>?_;rw[V2.o];have q2:=q1.o.below ae;have aa:=h.t ae;clear a1 a2 b1 b2 b3 b4 b5 b6 c1 c2 c3 c4 c5 c6 d1' d2' d3 d4 d5 d6 ae q1;obtain⟨a1,a2⟩:=q2.1.facts;obtain⟨b1,b2,b3,b4,b5,b6⟩:=q2.2.1.facts;obtain⟨c1,c2,c3,c4,c5,c6⟩:=q2.2.2.1.facts;obtain⟨d1',d2',d3,d4,d5,d6⟩:=q2.2.2.2.facts;have ai:=q2.2.2.2.lt;replace q2:=zh q2
 go_wp2_with fail
 refine(HF.o _ (hE.o.below aa.o)).q fun w3 af=>?_;have q3:=q2.o.below af;have ag:=aa.t af;clear a1 a2 b1 b2 b3 b4 b5 b6 c1 c2 c3 c4 c5 c6 d1' d2' d3 d4 d5 d6 af q2;obtain⟨d1',d2',d3,d4,d5,d6⟩:=q3.2.2.2.facts;have aj:=q3.2.2.2.lt;replace q3:=zh q3;go_wp2;refine zo (v:=.tuple #[.agg #[.bool r,.string n,.string d],.int .i64 E]) (by simp[results,results103,go_sem,d1',d2',d3]) rfl ⟨rfl,?_⟩
 repeat refine yI ?_ (by simp only[];omega) _
 exact ag.o
theorem Vh(g1 g2:Bool)(n1 d1 n2 d2:ByteArray)(w:World)(hE:Env w)(s1:n1.size<=140737488355328)(s2:d1.size<=140737488355328)(s3:n2.size<=140737488355328)(s4:d2.size<=140737488355328)(v1:A4 g1 n1 d1=true)(v2:A4 g2 n2 d2=true)(l1:n1.size<=140)(l2:d1.size<=140)(l3:n2.size<=140)(l4:d2.size<=140)(r:Bool)(n d:ByteArray)(E:Int)
 (hf:∀W,Env W->Calls prog 122 #[.agg #[.bool g1,.string n1,.string d1],.agg #[.bool g2,.string n2,.string d2]] W fun e w'=>e=.returned (.tuple #[.agg #[.bool r,.string n,.string d],.int .i64 E])/\Below W.heap.size W w'):
 Calls prog 103 #[.agg #[.bool false,.func (.func 122) #[] #[]],.agg #[.bool g1,.string n1,.string d1],.agg #[.bool g2,.string n2,.string d2]] w fun e w'=>e=.returned (.tuple #[.agg #[.bool r,.string n,.string d],.int .i64 E])/\Below w.heap.size w w':=by
 have V1:=zh v1;clear v1;have V2:=zh v2;clear v2;have HF:=zh hf;clear hf;replace hE:=zh hE;go_enter func103,ntmps103
 go_wp2_with fail
 refine(AL g1 n1 d1 _ (hE.o.below (A5 w _ _ _ _)) s1 s2).q fun w1 ad=>?_;rw[V1.o];have q1:=(RunBoxes.new w _ _ g1 g2 n1 d1 n2 d2).below ad;have h:=zh ((A5 w _ _ _ _).trans (ad.mono (A5 w _ _ _ _).size));obtain⟨a1,a2⟩:=q1.1.facts;obtain⟨b1,b2,b3,b4,b5,b6⟩:=q1.2.1.facts;obtain⟨c1,c2,c3,c4,c5,c6⟩:=q1.2.2.1.facts;obtain⟨d1',d2',d3,d4,d5,d6⟩:=q1.2.2.2.facts;have ah:=q1.2.2.2.lt;replace q1:=zh q1;clear ad
 go_wp2_with fail
 refine(AL g2 n2 d2 _ (hE.o.below h.o) s3 s4).q fun w2 ae=>?_;rw[V2.o];have q2:=q1.o.below ae;have aa:=h.t ae;clear a1 a2 b1 b2 b3 b4 b5 b6 c1 c2 c3 c4 c5 c6 d1' d2' d3 d4 d5 d6 ae q1;obtain⟨a1,a2⟩:=q2.1.facts;obtain⟨b1,b2,b3,b4,b5,b6⟩:=q2.2.1.facts;obtain⟨c1,c2,c3,c4,c5,c6⟩:=q2.2.2.1.facts;obtain⟨d1',d2',d3,d4,d5,d6⟩:=q2.2.2.2.facts;have ai:=q2.2.2.2.lt;replace q2:=zh q2
 go_wp2_with fail
 refine(HF.o _ (hE.o.below aa.o)).q fun w3 af=>?_;have q3:=q2.o.below af;have ag:=aa.t af;clear a1 a2 b1 b2 b3 b4 b5 b6 c1 c2 c3 c4 c5 c6 d1' d2' d3 d4 d5 d6 af q2;obtain⟨d1',d2',d3,d4,d5,d6⟩:=q3.2.2.2.facts;have aj:=q3.2.2.2.lt;replace q3:=zh q3;go_wp2;refine zo (v:=.tuple #[.agg #[.bool r,.string n,.string d],.int .i64 E]) (by simp[results,results103,go_sem,d1',d2',d3]) rfl ⟨rfl,?_⟩
 repeat refine yI ?_ (by simp only[];omega) _
 exact ag.o
theorem LH(g1 g2:Bool)(n1 d1 n2 d2:ByteArray)(w:World)(hE:Env w)(s1:n1.size<=140737488355328)(s2:d1.size<=140737488355328)(s3:n2.size<=140737488355328)(s4:d2.size<=140737488355328)(v1:A4 g1 n1 d1=true)(v2:A4 g2 n2 d2=true)(l1:n1.size<=140)(l2:d1.size<=140)(l3:n2.size<=140)(l4:d2.size<=140)(r:Bool)(n d:ByteArray)(E:Int)
 (hf:∀W,Env W->Calls prog 102 #[.agg #[.bool g1,.string n1,.string d1],.agg #[.bool g2,.string n2,.string d2]] W fun e w'=>e=.returned (.tuple #[.agg #[.bool r,.string n,.string d],.int .i64 E])/\Below W.heap.size W w'):
 Calls prog 103 #[.agg #[.bool false,.func (.func 102) #[] #[]],.agg #[.bool g1,.string n1,.string d1],.agg #[.bool g2,.string n2,.string d2]] w fun e w'=>e=.returned (.tuple #[.agg #[.bool r,.string n,.string d],.int .i64 E])/\Below w.heap.size w w':=by
 have V1:=zh v1;clear v1;have V2:=zh v2;clear v2;have HF:=zh hf;clear hf;replace hE:=zh hE;go_enter func103,ntmps103
 go_wp2_with fail
 refine(AL g1 n1 d1 _ (hE.o.below (A5 w _ _ _ _)) s1 s2).q fun w1 ad=>?_;rw[V1.o];have q1:=(RunBoxes.new w _ _ g1 g2 n1 d1 n2 d2).below ad;have h:=zh ((A5 w _ _ _ _).trans (ad.mono (A5 w _ _ _ _).size));obtain⟨a1,a2⟩:=q1.1.facts;obtain⟨b1,b2,b3,b4,b5,b6⟩:=q1.2.1.facts;obtain⟨c1,c2,c3,c4,c5,c6⟩:=q1.2.2.1.facts;obtain⟨d1',d2',d3,d4,d5,d6⟩:=q1.2.2.2.facts;have ah:=q1.2.2.2.lt;replace q1:=zh q1;clear ad
 go_wp2_with fail
 refine(AL g2 n2 d2 _ (hE.o.below h.o) s3 s4).q fun w2 ae=>?_;rw[V2.o];have q2:=q1.o.below ae;have aa:=h.t ae;clear a1 a2 b1 b2 b3 b4 b5 b6 c1 c2 c3 c4 c5 c6 d1' d2' d3 d4 d5 d6 ae q1;obtain⟨a1,a2⟩:=q2.1.facts;obtain⟨b1,b2,b3,b4,b5,b6⟩:=q2.2.1.facts;obtain⟨c1,c2,c3,c4,c5,c6⟩:=q2.2.2.1.facts;obtain⟨d1',d2',d3,d4,d5,d6⟩:=q2.2.2.2.facts;have ai:=q2.2.2.2.lt;replace q2:=zh q2
 go_wp2_with fail
 refine(HF.o _ (hE.o.below aa.o)).q fun w3 af=>?_;have q3:=q2.o.below af;have ag:=aa.t af;clear a1 a2 b1 b2 b3 b4 b5 b6 c1 c2 c3 c4 c5 c6 d1' d2' d3 d4 d5 d6 af q2;obtain⟨d1',d2',d3,d4,d5,d6⟩:=q3.2.2.2.facts;have aj:=q3.2.2.2.lt;replace q3:=zh q3;go_wp2;refine zo (v:=.tuple #[.agg #[.bool r,.string n,.string d],.int .i64 E]) (by simp[results,results103,go_sem,d1',d2',d3]) rfl ⟨rfl,?_⟩
 repeat refine yI ?_ (by simp only[];omega) _
 exact ag.o
theorem Vi(g1 g2:Bool)(n1 d1 n2 d2:ByteArray)(w:World)(hE:Env w)(s1:n1.size<=140737488355328)(s2:d1.size<=140737488355328)(s3:n2.size<=140737488355328)(s4:d2.size<=140737488355328)(v1:A4 g1 n1 d1=true)(v2:A4 g2 n2 d2=true)(h0:(n2.toList==[48])=false)(l1:n1.size<=140)(l2:d1.size<=140)(l3:n2.size<=140)(l4:d2.size<=140)(r:Bool)(n d:ByteArray)(E:Int)
 (hf:∀W,Env W->Calls prog 121 #[.agg #[.bool g1,.string n1,.string d1],.agg #[.bool g2,.string n2,.string d2]] W fun e w'=>e=.returned (.tuple #[.agg #[.bool r,.string n,.string d],.int .i64 E])/\Below W.heap.size W w'):
 Calls prog 103 #[.agg #[.bool true,.func (.func 121) #[] #[]],.agg #[.bool g1,.string n1,.string d1],.agg #[.bool g2,.string n2,.string d2]] w fun e w'=>e=.returned (.tuple #[.agg #[.bool r,.string n,.string d],.int .i64 E])/\Below w.heap.size w w':=by
 have V1:=zh v1;clear v1;have V2:=zh v2;clear v2;have HF:=zh hf;clear hf;replace hE:=zh hE;go_enter func103,ntmps103
 go_wp2_with fail
 refine(AL g1 n1 d1 _ (hE.o.below (A5 w _ _ _ _)) s1 s2).q fun w1 ad=>?_;rw[V1.o];have q1:=(RunBoxes.new w _ _ g1 g2 n1 d1 n2 d2).below ad;have h:=zh ((A5 w _ _ _ _).trans (ad.mono (A5 w _ _ _ _).size));obtain⟨a1,a2⟩:=q1.1.facts;obtain⟨b1,b2,b3,b4,b5,b6⟩:=q1.2.1.facts;obtain⟨c1,c2,c3,c4,c5,c6⟩:=q1.2.2.1.facts;obtain⟨d1',d2',d3,d4,d5,d6⟩:=q1.2.2.2.facts;have ah:=q1.2.2.2.lt;replace q1:=zh q1;clear ad
 go_wp2_with fail
 refine(AL g2 n2 d2 _ (hE.o.below h.o) s3 s4).q fun w2 ae=>?_;rw[V2.o];have q2:=q1.o.below ae;have aa:=h.t ae;clear a1 a2 b1 b2 b3 b4 b5 b6 c1 c2 c3 c4 c5 c6 d1' d2' d3 d4 d5 d6 ae q1;obtain⟨a1,a2⟩:=q2.1.facts;obtain⟨b1,b2,b3,b4,b5,b6⟩:=q2.2.1.facts;obtain⟨c1,c2,c3,c4,c5,c6⟩:=q2.2.2.1.facts;obtain⟨d1',d2',d3,d4,d5,d6⟩:=q2.2.2.2.facts;have ai:=q2.2.2.2.lt;replace q2:=zh q2
 go_wp2_with fail
 refine(HF.o _ (hE.o.below aa.o)).q fun w3 af=>?_;have q3:=q2.o.below af;have ag:=aa.t af;clear a1 a2 b1 b2 b3 b4 b5 b6 c1 c2 c3 c4 c5 c6 d1' d2' d3 d4 d5 d6 af q2;obtain⟨d1',d2',d3,d4,d5,d6⟩:=q3.2.2.2.facts;have aj:=q3.2.2.2.lt;replace q3:=zh q3;go_wp2;refine zo (v:=.tuple #[.agg #[.bool r,.string n,.string d],.int .i64 E]) (by simp[results,results103,go_sem,d1',d2',d3]) rfl ⟨rfl,?_⟩
 repeat refine yI ?_ (by simp only[];omega) _
 exact ag.o
theorem AS{g:Bool}{n d:ByteArray}(h:A4 g n d=true):n.size<=300/\d.size<=300:=by
 unfold A4 at h;simp only[zr]at h;exact⟨AU h.1,AU h.2.1⟩
theorem Br{q:Rat}(h:ShortQ q):(T (some q.num.natAbs)).size<=140/\(T (some q.den)).size<=140:=⟨(HW _).2 h.1,(HW _).2 h.2⟩
theorem AV{q:Rat}(h1:(T (some q.num.natAbs)).size<=140)(h2:(T (some q.den)).size<=140):ShortQ q:=⟨(HW _).1 h1,(HW _).1 h2⟩
theorem CO{q:Rat}(h:q≠0):q.num≠0:=fun e=>h (Rat.num_eq_zero.1 e)
theorem Wq(g1 g2:Bool)(n1 d1 n2 d2:ByteArray)(r:Bool)(n d:ByteArray)(E:Int)(w:World)(hE:Env w)
 (hr:∀W,Env W->Calls prog 103 #[.agg #[.bool false,.func (.func 104) #[] #[]],.agg #[.bool g1,.string n1,.string d1],.agg #[.bool g2,.string n2,.string d2]] W fun e w'=>e=.returned (.tuple #[.agg #[.bool r,.string n,.string d],.int .i64 E])/\Below W.heap.size W w'):
 Calls prog 52 #[.agg #[.bool g1,.string n1,.string d1],.agg #[.bool g2,.string n2,.string d2]] w fun e w'=>e=.returned (.tuple #[.agg #[.bool r,.string n,.string d],.int .i64 E])/\Below w.heap.size w w':=by
 have ae:=zh (TwoBoxes.new w g1 g2 n1 d1 n2 d2);have h:=zh (CC w g1 g2 n1 d1 n2 d2);replace hE:=zh hE;replace hr:=zh hr;go_enter func52,ntmps52
 go_wp2_with fail
 refine(hr.o _ (hE.o.below h.o)).q fun w1 aa=>?_;have q1:=ae.o.below aa;have ad:=h.t aa;obtain⟨c1,c2,c3,c4,c5,c6⟩:=q1.2.2.facts;have af:=q1.2.2.lt;clear aa;replace q1:=zh q1;go_wp2;refine zo (v:=.tuple #[.agg #[.bool r,.string n,.string d],.int .i64 E]) (by simp[results,results52,go_sem,c1,c2,c3]) rfl ⟨rfl,?_⟩
 repeat refine yI ?_ (by simp only[];omega) _
 exact ad.o
theorem GE(p q:Rat)(hp:ShortQ p)(hq:ShortQ q)(w:World)(hE:Env w):
 Calls prog 52 #[qv p,qv q] w fun e w'=>e=.returned (.tuple #[qv (p+q),.int .i64 0])/\Below w.heap.size w w':=by
 have l1:=Br hp;have l2:=Br hq;refine Wq _ _ _ _ _ _ _ _ _ _ w hE fun W hW=>?_;exact Vg _ _ _ _ _ _ W hW (by omega) (by omega) (by omega) (by omega) (AO hp.ok) (AO hq.ok) l1.1 l1.2 l2.1 l2.2 _ _ _ _ fun W2 h2=>Wp p q hp hq W2 h2
theorem Yb(p q:Rat)(hp:OkQ p)(hq:OkQ q)(hl:¬(ShortQ p/\ShortQ q))(w:World)(hE:Env w):
 Calls prog 52 #[qv p,qv q] w fun e w'=>e=.returned (.tuple #[zv,.int .i64 2])/\Below w.heap.size w w':=by
 have v1:=AO hp;have v2:=AO hq;have l1:=AS v1;have l2:=AS v2;refine Wq _ _ _ _ _ _ false ⟨#[]⟩ ⟨#[]⟩ 2 w hE fun W hW=>?_;exact Gi false 104 _ _ _ _ _ _ W hW (by omega) (by omega) (by omega) (by omega) v1 v2 (.inl rfl) fun h=>hl ⟨AV h.1 h.2.1,AV h.2.2.1 h.2.2.2⟩
theorem Wr(g1 g2:Bool)(n1 d1 n2 d2:ByteArray)(r:Bool)(n d:ByteArray)(E:Int)(w:World)(hE:Env w)
 (hr:∀W,Env W->Calls prog 103 #[.agg #[.bool false,.func (.func 122) #[] #[]],.agg #[.bool g1,.string n1,.string d1],.agg #[.bool g2,.string n2,.string d2]] W fun e w'=>e=.returned (.tuple #[.agg #[.bool r,.string n,.string d],.int .i64 E])/\Below W.heap.size W w'):
 Calls prog 87 #[.agg #[.bool g1,.string n1,.string d1],.agg #[.bool g2,.string n2,.string d2]] w fun e w'=>e=.returned (.tuple #[.agg #[.bool r,.string n,.string d],.int .i64 E])/\Below w.heap.size w w':=by
 have ae:=zh (TwoBoxes.new w g1 g2 n1 d1 n2 d2);have h:=zh (CC w g1 g2 n1 d1 n2 d2);replace hE:=zh hE;replace hr:=zh hr;go_enter func87,ntmps87
 go_wp2_with fail
 refine(hr.o _ (hE.o.below h.o)).q fun w1 aa=>?_;have q1:=ae.o.below aa;have ad:=h.t aa;obtain⟨c1,c2,c3,c4,c5,c6⟩:=q1.2.2.facts;have af:=q1.2.2.lt;clear aa;replace q1:=zh q1;go_wp2;refine zo (v:=.tuple #[.agg #[.bool r,.string n,.string d],.int .i64 E]) (by simp[results,results87,go_sem,c1,c2,c3]) rfl ⟨rfl,?_⟩
 repeat refine yI ?_ (by simp only[];omega) _
 exact ad.o
theorem JD(p q:Rat)(hp:ShortQ p)(hq:ShortQ q)(w:World)(hE:Env w):
 Calls prog 87 #[qv p,qv q] w fun e w'=>e=.returned (.tuple #[qv (p-q),.int .i64 0])/\Below w.heap.size w w':=by
 have l1:=Br hp;have l2:=Br hq;refine Wr _ _ _ _ _ _ _ _ _ _ w hE fun W hW=>?_;exact Vh _ _ _ _ _ _ W hW (by omega) (by omega) (by omega) (by omega) (AO hp.ok) (AO hq.ok) l1.1 l1.2 l2.1 l2.2 _ _ _ _ fun W2 h2=>WW p q hp hq W2 h2
theorem Sv(p q:Rat)(hp:OkQ p)(hq:OkQ q)(hl:¬(ShortQ p/\ShortQ q))(w:World)(hE:Env w):
 Calls prog 87 #[qv p,qv q] w fun e w'=>e=.returned (.tuple #[zv,.int .i64 2])/\Below w.heap.size w w':=by
 have v1:=AO hp;have v2:=AO hq;have l1:=AS v1;have l2:=AS v2;refine Wr _ _ _ _ _ _ false ⟨#[]⟩ ⟨#[]⟩ 2 w hE fun W hW=>?_;exact Gi false 122 _ _ _ _ _ _ W hW (by omega) (by omega) (by omega) (by omega) v1 v2 (.inl rfl) fun h=>hl ⟨AV h.1 h.2.1,AV h.2.2.1 h.2.2.2⟩
theorem Ws(g1 g2:Bool)(n1 d1 n2 d2:ByteArray)(r:Bool)(n d:ByteArray)(E:Int)(w:World)(hE:Env w)
 (hr:∀W,Env W->Calls prog 103 #[.agg #[.bool false,.func (.func 102) #[] #[]],.agg #[.bool g1,.string n1,.string d1],.agg #[.bool g2,.string n2,.string d2]] W fun e w'=>e=.returned (.tuple #[.agg #[.bool r,.string n,.string d],.int .i64 E])/\Below W.heap.size W w'):
 Calls prog 51 #[.agg #[.bool g1,.string n1,.string d1],.agg #[.bool g2,.string n2,.string d2]] w fun e w'=>e=.returned (.tuple #[.agg #[.bool r,.string n,.string d],.int .i64 E])/\Below w.heap.size w w':=by
 have ae:=zh (TwoBoxes.new w g1 g2 n1 d1 n2 d2);have h:=zh (CC w g1 g2 n1 d1 n2 d2);replace hE:=zh hE;replace hr:=zh hr;go_enter func51,ntmps51
 go_wp2_with fail
 refine(hr.o _ (hE.o.below h.o)).q fun w1 aa=>?_;have q1:=ae.o.below aa;have ad:=h.t aa;obtain⟨c1,c2,c3,c4,c5,c6⟩:=q1.2.2.facts;have af:=q1.2.2.lt;clear aa;replace q1:=zh q1;go_wp2;refine zo (v:=.tuple #[.agg #[.bool r,.string n,.string d],.int .i64 E]) (by simp[results,results51,go_sem,c1,c2,c3]) rfl ⟨rfl,?_⟩
 repeat refine yI ?_ (by simp only[];omega) _
 exact ad.o
theorem Fl(p q:Rat)(hp:ShortQ p)(hq:ShortQ q)(w:World)(hE:Env w):
 Calls prog 51 #[qv p,qv q] w fun e w'=>e=.returned (.tuple #[qv (p*q),.int .i64 0])/\Below w.heap.size w w':=by
 have l1:=Br hp;have l2:=Br hq;refine Ws _ _ _ _ _ _ _ _ _ _ w hE fun W hW=>?_;exact LH _ _ _ _ _ _ W hW (by omega) (by omega) (by omega) (by omega) (AO hp.ok) (AO hq.ok) l1.1 l1.2 l2.1 l2.2 _ _ _ _ fun W2 h2=>PT p q hp hq W2 h2
theorem Sw(p q:Rat)(hp:OkQ p)(hq:OkQ q)(hl:¬(ShortQ p/\ShortQ q))(w:World)(hE:Env w):
 Calls prog 51 #[qv p,qv q] w fun e w'=>e=.returned (.tuple #[zv,.int .i64 2])/\Below w.heap.size w w':=by
 have v1:=AO hp;have v2:=AO hq;have l1:=AS v1;have l2:=AS v2;refine Ws _ _ _ _ _ _ false ⟨#[]⟩ ⟨#[]⟩ 2 w hE fun W hW=>?_;exact Gi false 102 _ _ _ _ _ _ W hW (by omega) (by omega) (by omega) (by omega) v1 v2 (.inl rfl) fun h=>hl ⟨AV h.1 h.2.1,AV h.2.2.1 h.2.2.2⟩
theorem Wt(g1 g2:Bool)(n1 d1 n2 d2:ByteArray)(r:Bool)(n d:ByteArray)(E:Int)(w:World)(hE:Env w)
 (hr:∀W,Env W->Calls prog 103 #[.agg #[.bool true,.func (.func 121) #[] #[]],.agg #[.bool g1,.string n1,.string d1],.agg #[.bool g2,.string n2,.string d2]] W fun e w'=>e=.returned (.tuple #[.agg #[.bool r,.string n,.string d],.int .i64 E])/\Below W.heap.size W w'):
 Calls prog 85 #[.agg #[.bool g1,.string n1,.string d1],.agg #[.bool g2,.string n2,.string d2]] w fun e w'=>e=.returned (.tuple #[.agg #[.bool r,.string n,.string d],.int .i64 E])/\Below w.heap.size w w':=by
 have ae:=zh (TwoBoxes.new w g1 g2 n1 d1 n2 d2);have h:=zh (CC w g1 g2 n1 d1 n2 d2);replace hE:=zh hE;replace hr:=zh hr;go_enter func85,ntmps85
 go_wp2_with fail
 refine(hr.o _ (hE.o.below h.o)).q fun w1 aa=>?_;have q1:=ae.o.below aa;have ad:=h.t aa;obtain⟨c1,c2,c3,c4,c5,c6⟩:=q1.2.2.facts;have af:=q1.2.2.lt;clear aa;replace q1:=zh q1;go_wp2;refine zo (v:=.tuple #[.agg #[.bool r,.string n,.string d],.int .i64 E]) (by simp[results,results85,go_sem,c1,c2,c3]) rfl ⟨rfl,?_⟩
 repeat refine yI ?_ (by simp only[];omega) _
 exact ad.o
theorem PU(p q:Rat)(hp:ShortQ p)(hq:ShortQ q)(h0:q≠0)(w:World)(hE:Env w):
 Calls prog 85 #[qv p,qv q] w fun e w'=>e=.returned (.tuple #[qv (p/q),.int .i64 0])/\Below w.heap.size w w':=by
 have l1:=Br hp;have l2:=Br hq;have hn:=CO h0;have hz:=Bp q.num.natAbs;rw[zH (by omega)]at hz;refine Wt _ _ _ _ _ _ _ _ _ _ w hE fun W hW=>?_;exact Vi _ _ _ _ _ _ W hW (by omega) (by omega) (by omega) (by omega) (AO hp.ok) (AO hq.ok) hz l1.1 l1.2 l2.1 l2.2 _ _ _ _ fun W2 h2=>WU p q hp hq hn W2 h2
theorem Sx(p q:Rat)(hp:OkQ p)(hq:OkQ q)(h0:q≠0)(hl:¬(ShortQ p/\ShortQ q))(w:World)(hE:Env w):
 Calls prog 85 #[qv p,qv q] w fun e w'=>e=.returned (.tuple #[zv,.int .i64 2])/\Below w.heap.size w w':=by
 have v1:=AO hp;have v2:=AO hq;have l1:=AS v1;have l2:=AS v2;have hn:=CO h0;have hz:=Bp q.num.natAbs;rw[zH (by omega)]at hz;refine Wt _ _ _ _ _ _ false ⟨#[]⟩ ⟨#[]⟩ 2 w hE fun W hW=>?_;exact Gi true 121 _ _ _ _ _ _ W hW (by omega) (by omega) (by omega) (by omega) v1 v2 (.inr ⟨rfl,hz⟩) fun h=>hl ⟨AV h.1 h.2.1,AV h.2.2.1 h.2.2.2⟩
def Is(p q:Rat):Int:=if p<q then -1 else if p=q then 0 else 1
theorem Vj(q:Rat):q.num<0<->q<0:=by
 rw[Rat.lt_iff]
 show _<->q.num*1<0*_
 omega
theorem Hh(p q:Rat):(p-q).num<0<->p<q:=by
 rw[Vj,Rat.sub_lt_iff,Rat.zero_add]
theorem Gj(p q:Rat):p-q=0<->p=q:=by
 constructor
 .intro h;have e:p-q+q=0+q:=congrArg (·+q) h
  rwa [Rat.sub_add_cancel,Rat.zero_add]at e
 intro h;rw[h];exact Rat.sub_self
theorem PV(g1 g2:Bool)(n1 d1 n2 d2:ByteArray)(r:Bool)(n d:ByteArray)(E c f:Int)(w:World)(hE:Env w)
 (hs:∀W,Env W->Calls prog 87 #[.agg #[.bool g1,.string n1,.string d1],.agg #[.bool g2,.string n2,.string d2]] W fun e w'=>e=.returned (.tuple #[.agg #[.bool r,.string n,.string d],.int .i64 E])/\Below W.heap.size W w')
 (hk:(E≠0/\c=0/\f=E)\/(E=0/\r=true/\c=-1/\f=0)\/(E=0/\r=false/\(n.toList==[48])=true/\c=0/\f=0)\/(E=0/\r=false/\(n.toList==[48])=false/\c=1/\f=0)):
 Calls prog 55 #[.agg #[.bool g1,.string n1,.string d1],.agg #[.bool g2,.string n2,.string d2]] w fun e w'=>e=.returned (.tuple #[.int .i64 c,.int .i64 f])/\Below w.heap.size w w':=by
 have h:Hid (Below w.heap.size w ((w.alloc (.cells #[.bool g1,.string n1,.string d1] 48)).alloc (.cells #[.bool g2,.string n2,.string d2] 48))):=((zI _ w).alloc (zB _) _).alloc (by simp) _;replace hE:=zh hE;replace hs:=zh hs
 rcases hk with⟨h1,rfl,rfl⟩|⟨rfl,rfl,rfl,rfl⟩|⟨rfl,rfl,h1,rfl,rfl⟩|⟨rfl,rfl,h1,rfl,rfl⟩
 rotate_left
 all_goals
  go_enter func55,ntmps55
  go_wp2_with fail
  refine(hs.o _ (hE.o.below h.o)).q fun w1 ad=>?_;have aa:=h.t ad;clear ad;go_wp2;go_ret2;exact⟨rfl,aa.o.alloc aa.o.size _⟩
theorem CI(p q:Rat)(hp:ShortQ p)(hq:ShortQ q)(w:World)(hE:Env w):
 Calls prog 55 #[qv p,qv q] w fun e w'=>e=.returned (.tuple #[.int .i64 (Is p q),.int .i64 0])/\Below w.heap.size w w':=by
 refine PV _ _ _ _ _ _ _ _ _ 0 (Is p q) 0 w hE (fun W hW=>JD p q hp hq W hW) ?_;unfold Is;rw[Bp]
 by_cases h1:p<q
 .exact .inr (.inl ⟨rfl,zG ((Hh p q).2 h1),zF h1,rfl⟩)
 have hn:=(not_congr (Hh p q)).2 h1;rw[zE h1]
 by_cases h2:p=q
 .refine .inr (.inr (.inl ⟨rfl,zH hn,?_,zF h2,rfl⟩));rw[(Gj p q).2 h2];rfl
 refine .inr (.inr (.inr ⟨rfl,zH hn,?_,zE h2,rfl⟩));have h3:=CO (fun h=>h2 ((Gj p q).1 h));exact zH (by omega)
theorem Nu(n:Int):Lib.trimPrefix (Lib.itoa n) [45]=Lib.decDigits n.natAbs:=by
 unfold Lib.itoa
 by_cases h:n<0
 .rw[zF h];simp[Lib.trimPrefix,Lib.hasPrefix]
 rw[zE h];have e:n.toNat=n.natAbs:=by omega
 rw[e];unfold Lib.trimPrefix Lib.hasPrefix;rw[zE];intro hp;have hd:=BG n.natAbs
 cases hl:Lib.decDigits n.natAbs with
 |nil=>exact BE _ hl
 |cons c r=>
  rw[hl]at hp hd;simp at hp;have:=(hd c (by simp)).1;rw[<-hp]at this;revert this;decide
theorem LI(n:Int)(h0:-9223372036854775808<=n)(h1:n<=9223372036854775807)(w:World)(hE:Env w):
 Calls prog 105 #[.int .i64 n] w fun e w'=>e=.returned (.string (T (some n.natAbs)))/\Below w.heap.size w w':=by
 have hi:=RF n h0 h1 w hE.tab;have ht:=fun W=>Tryz.strings_TrimPrefix ⟨(Lib.itoa n).toArray⟩ ⟨#[45]⟩ W
 have e:(⟨(Lib.trimPrefix (⟨(Lib.itoa n).toArray⟩:ByteArray).data.toList (⟨#[45]⟩:ByteArray).data.toList).toArray⟩:ByteArray)=T (some n.natAbs):=by
  show (⟨(Lib.trimPrefix (Lib.itoa n) [45]).toArray⟩:ByteArray)=_
  rw[Nu];rfl
 rw[e]at ht;clear e;go_enter func105,ntmps105
 go_wp2_with fail
 refine hi.q fun w1 d=>?_;replace d:=zh d
 go_wp2_with fail
 refine(ht _).q fun w2 h=>?_;subst h;go_wp2;go_ret;exact⟨rfl,d.o⟩
theorem AP(w:World)(o:Obj):Below w.heap.size w (w.alloc o):=(zI _ w).alloc (zB _) _
theorem EO{n:Int}(h0:-9223372036854775808<=n)(h1:n<=9223372036854775807):n.natAbs<L1:=by
 have h:10^20<=L1:=zj (by omega) (by rw[DQ];omega);omega
theorem YG(m n:Int)(ag:-9223372036854775808<=m)(ah:m<=9223372036854775807)(ai:-9223372036854775808<=n)(aj:n<=9223372036854775807)(h0:n≠0)(r:Bool)(x y:ByteArray)(w:World)(hE:Env w)
 (hl:∀W,Env W->Calls prog 108 #[.bool (!(decide (m<0)==decide (n<0))),.string (T (some m.natAbs)),.string (T (some n.natAbs))] W fun e w'=>e=.returned (.tuple #[.agg #[.bool r,.string x,.string y],.int .i64 0])/\Below W.heap.size W w'):
 Calls prog 56 #[.int .i64 m,.int .i64 n] w fun e w'=>e=.returned (.tuple #[.agg #[.bool r,.string x,.string y],.int .i64 0])/\Below w.heap.size w w':=by
 have hz:(n==0)=false:=by rw[zN];exact h0
 have c1:=fun W (h:Env W)=>LI m ag ah W h;have c2:=fun W (h:Env W)=>LI n ai aj W h;replace hE:=zh hE;replace hl:=zh hl;replace h0:=zh h0;clear ag ah ai aj;go_enter func56,ntmps56
 go_wp2_with fail
 refine(c1 _ (hE.o.below (AP _ _))).q fun w1 ad=>?_;have q1:=(B3.new w false ⟨#[]⟩ ⟨#[]⟩).below ad;have d:=zh ((AP w (.cells #[.bool false,.string ⟨#[]⟩,.string ⟨#[]⟩] 48)).trans (ad.mono (by simp)));clear ad;replace q1:=zh q1
 go_wp2_with fail
 refine(c2 _ (hE.o.below d.o)).q fun w2 ae=>?_;have q2:=q1.o.below ae;have aa:=d.t ae;clear ae;replace q2:=zh q2
 go_wp2_with fail
 refine(hl.o _ (hE.o.below aa.o)).q fun w3 af=>?_;have q3:=q2.o.below af;have ak:=aa.t af;obtain⟨d1,d2,d3,d4,d5,d6⟩:=q3.facts;have al:=q3.lt;clear af;replace q3:=zh q3;go_wp2;refine zo (v:=.tuple #[.agg #[.bool r,.string x,.string y],.int .i64 0]) (by simp[results,results56,go_sem,d1,d2,d3]) rfl ⟨rfl,?_⟩
 repeat refine yI ?_ (by simp only[];omega) _
 exact ak.o
def ofQ(m n:Int):Rat:=mkRat (sg (!(decide (m<0)==decide (n<0))) m.natAbs) n.natAbs
theorem Fm(m n:Int)(d:-9223372036854775808<=m)(h:m<=9223372036854775807)(aa:-9223372036854775808<=n)(ad:n<=9223372036854775807)(h0:n≠0)(w:World)(hE:Env w):
 Calls prog 56 #[.int .i64 m,.int .i64 n] w fun e w'=>e=.returned (.tuple #[qv (ofQ m n),.int .i64 0])/\Below w.heap.size w w' :=
 YG m n d h aa ad h0 _ _ _ w hE fun W hW=>Du _ m.natAbs n.natAbs W hW (AG (EO d h)) (AG (EO aa ad)) (by omega)
def REnv(w:World):Prop:=Env w/\∃m:Int,w.cell? ⟨5,0,none⟩=some (.int .i64 m)
theorem REnv.lt{w:World}(h:REnv w):5<w.heap.size:=by
 obtain⟨_,m,hm⟩:=h;exact xq w _ hm
theorem REnv.below{w w':World}(h:REnv w)(hb:Below w.heap.size w w'):REnv w':=by
 have hl:=h.lt;obtain⟨h1,m,hm⟩:=h;exact⟨h1.below hb,m,(hb.cell (p:=⟨5,0,none⟩) hl).trans hm⟩
end Nt
end
section
open Go.ChangeShapes Go.WideShapes Go.ChangeAt Go.RowKit Go.Shelf Go.Joins
namespace Nt
theorem WX{k:IntKind}{n:Int}(h:(Lit.int k n).wf=true):k.min<=n/\n<=k.max:=by simpa [Lit.wf] using h
section
variable {H:Type} {enc:TypeId×Value->H} {w:World} {base:Nat} {spare:Nat->Bool} {held:Bool}
theorem Vk:prog.cellsOf 48=3:=by kernel_rfl
end
end Nt
end
section
open Go.ChangeShapes Go.WideShapes Go.ChangeAt Go.RowKit Go.Shelf Go.Joins Go.Deep
namespace Ci
open Nt
def DB(x:Int):Prop:=-9223372036854775808<=x/\x<=9223372036854775807
def lkD{H:Type}(x:Lk):DataW H:=.agg [.lit (.int .i64 x.1),.lit (.int .i64 x.2.1),.agg [.lit (.bool x.2.2.1),.lit (.string x.2.2.2.1.data.toList),.lit (.string x.2.2.2.2.data.toList)]]
def Sy{H:Type}(x:ByteArray):DataW H:=.lit (.string x.data.toList)
def Vl{H:Type}(x:Int):DataW H:=.lit (.int .i64 x)
def Jp{H α:Type}(f:α->DataW H)(l:List α)(d:DataW H):Prop:=(d=.nil/\l=[])\/∃rest,d=.slice (l.map f) rest
section
variable {H:Type} {enc:TypeId×Value->H} {w:World} {base:Nat} {held:Bool}
theorem PW{b o k:Nat}:(⟨b,o,none⟩:Addr).add k=⟨b,o+k,none⟩:=by unfold Addr.add;split<;>simp_all
theorem i64_in{x:Int}(h:(Lit.int .i64 x).wf=true):DB x:=by
 have:=WX h;exact this
theorem It{fuel:Nat}{cs:List Value}{x:DataW H×List MemPlace}(h:DataW.trod enc prog w base (fun _=>true) held fuel 37 cs=some x):
 ∃(A:Option Addr)(cap:Nat)(l:List Int),cs=[.slice A l.length cap]/\Jp Vl l x.1/\InInt w A l/\∀y,y∈l->DB y:=by
 rcases open_slice1 underlying37 (by kernel_rfl) h with⟨h1,h2⟩|⟨a,len,cap,m,n,V,D,Pl,ae,hb,hl,hm,ad,hx,hi⟩
 .exact⟨none,0,[],h1,.inl ⟨by rw[h2],rfl⟩,fun h=>absurd h (by simp),fun y hy=>by cases hy⟩
 simp only[vG]at ad;subst ad
 have each:∀i,i<m->∃y:Int,V i=.int .i64 y/\D i=Vl y/\DB y:=by
  intro i af;obtain⟨y,e1,e2,e3⟩:=DataW.trod_int underlying3 (hi i af).2;exact⟨y,by simpa using e1,congrArg Prod.fst e2,i64_in e3⟩
 obtain⟨Y,hY⟩:=choose_lt each;refine⟨some a,m,(List.range len).map Y,by simpa using ae,.inr ⟨_,by rw[hx,xz];simp only[];congr 1;exact xi fun i d=>(hY i (by have:=List.mem_range.1 d;omega)).2.1⟩,fun h0=>?_,fun y hy=>?_⟩
 .simp only[zW,yh]at h0;have aa:=(hi 0 (by omega)).1;have ag:=World.cell?_spot aa;obtain⟨b,o,s⟩:=a;have hs:s=none:=by simpa [Addr.add] using ag
  subst hs;refine⟨b,o,rfl,?_,fun j hj=>?_⟩
  .have:=xq w _ aa
   simpa [PW] using this
  have ah:j<len:=by simpa using hj
  have hc:=(hi j (by omega)).1;rw[PW,(hY j (by omega)).1]at hc;simp only[yJ,vA];exact hc
 obtain⟨i,d,rfl⟩:=List.mem_map.1 hy;exact(hY i (by have:=List.mem_range.1 d;omega)).2.2
theorem Nv{fuel:Nat}{cs:List Value}{x:DataW H×List MemPlace}(h:DataW.trod enc prog w base (fun _=>true) held fuel 23 cs=some x):
 ∃(A:Option Addr)(cap:Nat)(l:List ByteArray),cs=[.slice A l.length cap]/\Jp Sy l x.1/\InStr w A l:=by
 rcases open_slice1 underlying23 (by kernel_rfl) h with⟨h1,h2⟩|⟨a,len,cap,m,n,V,D,Pl,ad,hb,hl,hm,aa,hx,hi⟩
 .exact⟨none,0,[],h1,.inl ⟨by rw[h2],rfl⟩,fun h=>absurd h (by simp)⟩
 simp only[vG]at aa;subst aa
 have each:∀i,i<m->∃y:ByteArray,V i=.string y/\D i=Sy y:=by
  intro i af;obtain⟨y,e1,e2,_⟩:=vH underlying9 (hi i af).2;exact⟨y,by simpa using e1,congrArg Prod.fst e2⟩
 obtain⟨Y,hY⟩:=choose_lt each;refine⟨some a,m,(List.range len).map Y,by simpa using ad,.inr ⟨_,by rw[hx,xz];simp only[];congr 1;exact xi fun i ae=>(hY i (by have:=List.mem_range.1 ae;omega)).2⟩,fun h0=>?_⟩;simp only[zW,yh]at h0;have d:=(hi 0 (by omega)).1;have ag:=World.cell?_spot d;obtain⟨b,o,s⟩:=a;have hs:s=none:=by simpa [Addr.add] using ag
 subst hs;refine⟨b,o,rfl,?_,fun j hj=>?_⟩
 .have:=xq w _ d
  simpa [PW] using this
 have ah:j<len:=by simpa using hj
 have hc:=(hi j (by omega)).1;rw[PW,(hY j (by omega)).1]at hc;simp only[yJ,vA];exact hc
theorem Sz:prog.cellsOf 106=5:=by kernel_rfl
theorem JE{fuel:Nat}{cs:List Value}{x:DataW H×List MemPlace}(h:DataW.trod enc prog w base (fun _=>true) held fuel 30 cs=some x):
 ∃(A:Option Addr)(cap:Nat)(l:List Lk),cs=[.slice A l.length cap]/\Jp lkD l x.1/\InLk w A l/\(∀y,y∈l->DB y.1/\DB y.2.1)/\l.length<=cap:=by
 rcases open_slice underlying30 h with⟨h1,h2⟩|⟨a,len,cap,m,n,D,Pl,ag,hb,hl,hm,ae,hx,hi⟩
 .exact⟨none,0,[],h1,.inl ⟨by rw[h2],rfl⟩,fun h=>absurd h (by simp),(fun y hy=>by cases hy),zB _⟩
 simp only[vG]at ae;subst ae
 have each:∀i,i<m->∃y:Lk,D i=lkD y/\(w.cell? (a.add (i*5))=some (.int .i64 y.1)/\w.cell? (a.add (i*5+1))=some (.int .i64 y.2.1)/\w.cell? (a.add (i*5+2))=some (.bool y.2.2.1)/\w.cell? (a.add (i*5+3))=some (.string y.2.2.2.1)/\w.cell? (a.add (i*5+4))=some (.string y.2.2.2.2))/\DB y.1/\DB y.2.1:=by
  intro i ah;obtain⟨cs',hc,aj⟩:=hi i ah;rw[Sz]at hc;obtain⟨y0,y1,y2,n',hy,_,t0,t1,t2⟩:=trod_struct3 underlying106 aj;obtain⟨z0,z1,z2,n'',hz,_,u0,u1,u2⟩:=trod_struct3 underlying48 t2;obtain⟨_,af,d⟩:=World.cells?_some hc
  match cs',af with
  | [c0,c1,c2,c3,c4],_=>
    have g0:=d 0 (by omega);have g1:=d 1 (by omega);have g2:=d 2 (by omega);have g3:=d 3 (by omega);have g4:=d 4 (by omega);rw[Go.Deep.add_add]at g0 g1 g2 g3 g4;obtain⟨a0,e0,k0,f0⟩:=DataW.trod_int underlying3 t0;obtain⟨a1,e1,k1,f1⟩:=DataW.trod_int underlying3 t1;obtain⟨a2,e2,k2⟩:=DataW.trod_bool underlying4 u0;obtain⟨a3,e3,k3,_⟩:=vH underlying9 u1;obtain⟨a4,e4,k4,_⟩:=vH underlying9 u2;simp only[Prod.mk.injEq]at hy hz;have s1:prog.cellsOf 3=1:=by kernel_rfl
    have s2:prog.cellsOf 4=1:=by kernel_rfl
    have s3:prog.cellsOf 9=1:=by kernel_rfl
    have s4:prog.cellsOf 48=3:=by kernel_rfl
    have b0:c0=.int .i64 a0:=by simpa [s1,s2,s3,s4] using e0
    have b1:c1=.int .i64 a1:=by simpa [s1,s2,s3,s4] using e1
    have b2:c2=.bool a2:=by simpa [s1,s2,s3,s4] using e2
    have b3:c3=.string a3:=by simpa [s1,s2,s3,s4] using e3
    have b4:c4=.string a4:=by simpa [s1,s2,s3,s4] using e4
    subst b0 b1 b2 b3 b4;refine⟨(a0,a1,a2,a3,a4),?_,⟨by simpa using g0,by simpa using g1,by simpa using g2,by simpa using g3,by simpa using g4⟩,i64_in f0,i64_in f1⟩;rw[hy.1,k0,k1,hz,k2,k3,k4];rfl
 obtain⟨Y,hY⟩:=choose_lt each;refine⟨some a,m,(List.range len).map Y,by simpa using ag,.inr ⟨_,by rw[hx,xz];simp only[];congr 1;exact xi fun i aa=>(hY i (by have:=List.mem_range.1 aa;omega)).1⟩,fun h0=>?_,fun y hy=>?_,by rw[zW,yh];omega⟩
 .simp only[zW,yh]at h0;have ad:=(hY 0 (by omega)).2.1.1;have ai:=World.cell?_spot ad;obtain⟨b,o,s⟩:=a;have hs:s=none:=by simpa [Addr.add] using ai
  subst hs;refine⟨b,o,rfl,?_,fun j hj=>?_⟩
  .have:=xq w _ ad
   simpa [PW] using this
  have ak:j<len:=by simpa using hj
  have hc:=(hY j (by omega)).2.1;simp only[PW]at hc;simp only[yJ,vA];exact hc
 obtain⟨i,aa,rfl⟩:=List.mem_map.1 hy;exact(hY i (by have:=List.mem_range.1 aa;omega)).2.2
theorem S8{fuel:Nat}{cs:List Value}{x:DataW H×List MemPlace}(h:DataW.trod enc prog w base (fun _=>true) held fuel 30 cs=some x):
 ∃(A:Option Addr)(cap:Nat)(l:List Lk),cs=[.slice A l.length cap]/\Jp lkD l x.1/\InLk w A l/\∀y,y∈l->DB y.1/\DB y.2.1:=by
 obtain⟨A,cap,l,h1,h2,h3,h4,_⟩:=JE h;exact⟨A,cap,l,h1,h2,h3,h4⟩
end
end Ci
end
section
open Go.RowKit Go.Shelf
namespace Ci
open Nt
theorem Ec(s:ByteArray)(w:World)(hs:s.size<=9223372036854775807):
 Calls prog 58 #[.string s] w fun e w'=>e=.returned (.bool (An s))/\w'=w:=by
 have HB:=zh (fun(k:Nat) (h:k<s.size) (hb:¬Bc k s[k].toNat)=>J7 (s:=s) h hb);have HA:=zh (J8 (s:=s));go_enter func58,ntmps58;go_wp2
 go_loop [8] (fun i=>∃k:Nat,k<=s.size/\i=.int .i64 k/\Hid (∀i (h:i<s.size),i<k->Bc i s[i].toNat)) (fun i=>s.size-(intOf i).toNat)
 case atStart=>exact⟨0,zS _,rfl,fun i _ h=>absurd h (yB _)⟩
 case round=>
  obtain⟨k,hk,rfl,hI⟩:=hrel
  by_cases hlt:k<s.size
  .have hc:s[k].toNat<=255:=by have:=s[k].toNat_lt;omega
   have i0:(0:Int)<=(k:Int):=by omega
   have i1:(k:Int)<(s.size:Int):=by omega
   have HN:Hid (Bc k s[k].toNat->∀i (h:i<s.size),i<k+1->Bc i s[i].toNat):=fun h i hi h2=>by
    by_cases e:i=k
    .subst e;exact h
    exact hI.o i hi (by omega)
   have HB2:=zh (HB.o k hlt);clear hI
   by_cases e0:k=0
   .have b0:((k:Int)==0)=true:=by rw[xQ];omega
    have b0n:((k:Int) != 0)=false:=by rw[zq];omega
    have b3:(k==0)=true:=by rw[xQ];omega
    replace e0:=zh e0;have d:(s[k].toNat<=47/\0<=s[k].toNat)\/(48<=s[k].toNat/\s[k].toNat<=57)\/(58<=s[k].toNat/\s[k].toNat<=64)\/(65<=s[k].toNat/\s[k].toNat<=90)\/(91<=s[k].toNat/\s[k].toNat<=94)\/(95<=s[k].toNat/\s[k].toNat<=95)\/(96<=s[k].toNat/\s[k].toNat<=96)\/(97<=s[k].toNat/\s[k].toNat<=122)\/(123<=s[k].toNat/\s[k].toNat<=255):=by omega
    rcases d with⟨g1,g2⟩|⟨g1,g2⟩|⟨g1,g2⟩|⟨g1,g2⟩|⟨g1,g2⟩|⟨g1,g2⟩|⟨g1,g2⟩|⟨g1,g2⟩|⟨g1,g2⟩
    .have b1:((s[k].toNat:Int) != 95)=true:=by rw[zm];omega
     have b2:((s[k].toNat:Int)==95)=false:=by rw[zN];omega
     have HR:Hid (An s=false):=HB2.o (by have:=e0.o;unfold Bc;omega);clear HN HB2;go_wp2;go_ret;exact⟨Ad HR.o.symm,rfl⟩
    .have b1:((s[k].toNat:Int) != 95)=true:=by rw[zm];omega
     have b2:((s[k].toNat:Int)==95)=false:=by rw[zN];omega
     have HR:Hid (An s=false):=HB2.o (by have:=e0.o;unfold Bc;omega);clear HN HB2;go_wp2;go_ret;exact⟨Ad HR.o.symm,rfl⟩
    .have b1:((s[k].toNat:Int) != 95)=true:=by rw[zm];omega
     have b2:((s[k].toNat:Int)==95)=false:=by rw[zN];omega
     have HR:Hid (An s=false):=HB2.o (by have:=e0.o;unfold Bc;omega);clear HN HB2;go_wp2;go_ret;exact⟨Ad HR.o.symm,rfl⟩
    .have b1:((s[k].toNat:Int) != 95)=true:=by rw[zm];omega
     have b2:((s[k].toNat:Int)==95)=false:=by rw[zN];omega
     have HR:=zh (HN.o (by have:=e0.o;unfold Bc;omega));clear HN HB2;go_wp2;go_round
     case rel=>exact⟨k+1,by omega,by go_num,HR⟩
     case measure=>simp[intOf];omega
    .have b1:((s[k].toNat:Int) != 95)=true:=by rw[zm];omega
     have b2:((s[k].toNat:Int)==95)=false:=by rw[zN];omega
     have c1:decide ((s[k].toNat:Int)<=90)=false:=by rw[zM];omega
     have d1:decide (s[k].toNat<=90)=false:=by rw[zM];omega
     have n1:¬((s[k].toNat:Int)<=90):=by omega
     have HR:Hid (An s=false):=HB2.o (by have:=e0.o;unfold Bc;omega);clear HN HB2;go_wp2;go_ret;exact⟨Ad HR.o.symm,rfl⟩
    .have b1:((s[k].toNat:Int) != 95)=false:=by rw[zq];omega
     have b2:((s[k].toNat:Int)==95)=true:=by rw[xQ];omega
     have c1:decide ((s[k].toNat:Int)<=90)=false:=by rw[zM];omega
     have d1:decide (s[k].toNat<=90)=false:=by rw[zM];omega
     have n1:¬((s[k].toNat:Int)<=90):=by omega
     have HR:Hid (An s=false):=HB2.o (by have:=e0.o;unfold Bc;omega);clear HN HB2;go_wp2;go_ret;exact⟨Ad HR.o.symm,rfl⟩
    .have b1:((s[k].toNat:Int) != 95)=true:=by rw[zm];omega
     have b2:((s[k].toNat:Int)==95)=false:=by rw[zN];omega
     have c1:decide ((s[k].toNat:Int)<=90)=false:=by rw[zM];omega
     have d1:decide (s[k].toNat<=90)=false:=by rw[zM];omega
     have n1:¬((s[k].toNat:Int)<=90):=by omega
     have HR:Hid (An s=false):=HB2.o (by have:=e0.o;unfold Bc;omega);clear HN HB2;go_wp2;go_ret;exact⟨Ad HR.o.symm,rfl⟩
    .have b1:((s[k].toNat:Int) != 95)=true:=by rw[zm];omega
     have b2:((s[k].toNat:Int)==95)=false:=by rw[zN];omega
     have c1:decide ((s[k].toNat:Int)<=90)=false:=by rw[zM];omega
     have d1:decide (s[k].toNat<=90)=false:=by rw[zM];omega
     have n1:¬((s[k].toNat:Int)<=90):=by omega
     have HR:=zh (HN.o (by have:=e0.o;unfold Bc;omega));clear HN HB2;go_wp2;go_round
     case rel=>exact⟨k+1,by omega,by go_num,HR⟩
     case measure=>simp[intOf];omega
    have b1:((s[k].toNat:Int) != 95)=true:=by rw[zm];omega
    have b2:((s[k].toNat:Int)==95)=false:=by rw[zN];omega
    have c0:decide ((s[k].toNat:Int)<=122)=false:=by rw[zM];omega
    have d0:decide (s[k].toNat<=122)=false:=by rw[zM];omega
    have n0:¬((s[k].toNat:Int)<=122):=by omega
    have c1:decide ((s[k].toNat:Int)<=90)=false:=by rw[zM];omega
    have d1:decide (s[k].toNat<=90)=false:=by rw[zM];omega
    have n1:¬((s[k].toNat:Int)<=90):=by omega
    have HR:Hid (An s=false):=HB2.o (by have:=e0.o;unfold Bc;omega);clear HN HB2;go_wp2;go_ret;exact⟨Ad HR.o.symm,rfl⟩
   have b0:((k:Int)==0)=false:=by rw[zN];omega
   have b0n:((k:Int) != 0)=true:=by rw[zm];omega
   have b3:(k==0)=false:=by rw[zN];omega
   have d:(s[k].toNat<=47/\0<=s[k].toNat)\/(48<=s[k].toNat/\s[k].toNat<=57)\/(58<=s[k].toNat/\s[k].toNat<=64)\/(65<=s[k].toNat/\s[k].toNat<=90)\/(91<=s[k].toNat/\s[k].toNat<=94)\/(95<=s[k].toNat/\s[k].toNat<=95)\/(96<=s[k].toNat/\s[k].toNat<=96)\/(97<=s[k].toNat/\s[k].toNat<=122)\/(123<=s[k].toNat/\s[k].toNat<=255):=by omega
   rcases d with⟨g1,g2⟩|⟨g1,g2⟩|⟨g1,g2⟩|⟨g1,g2⟩|⟨g1,g2⟩|⟨g1,g2⟩|⟨g1,g2⟩|⟨g1,g2⟩|⟨g1,g2⟩
   .have b1:((s[k].toNat:Int) != 95)=true:=by rw[zm];omega
    have b2:((s[k].toNat:Int)==95)=false:=by rw[zN];omega
    have HR:Hid (An s=false):=HB2.o (by unfold Bc;omega);clear HN HB2;go_wp2;go_ret;exact⟨Ad HR.o.symm,rfl⟩
   .have b1:((s[k].toNat:Int) != 95)=true:=by rw[zm];omega
    have b2:((s[k].toNat:Int)==95)=false:=by rw[zN];omega
    have HR:=zh (HN.o (by unfold Bc;omega));clear HN HB2;go_wp2;go_round
    case rel=>exact⟨k+1,by omega,by go_num,HR⟩
    case measure=>simp[intOf];omega
   .have b1:((s[k].toNat:Int) != 95)=true:=by rw[zm];omega
    have b2:((s[k].toNat:Int)==95)=false:=by rw[zN];omega
    have HR:Hid (An s=false):=HB2.o (by unfold Bc;omega);clear HN HB2;go_wp2;go_ret;exact⟨Ad HR.o.symm,rfl⟩
   .have b1:((s[k].toNat:Int) != 95)=true:=by rw[zm];omega
    have b2:((s[k].toNat:Int)==95)=false:=by rw[zN];omega
    have HR:=zh (HN.o (by unfold Bc;omega));clear HN HB2;go_wp2;go_round
    case rel=>exact⟨k+1,by omega,by go_num,HR⟩
    case measure=>simp[intOf];omega
   .have b1:((s[k].toNat:Int) != 95)=true:=by rw[zm];omega
    have b2:((s[k].toNat:Int)==95)=false:=by rw[zN];omega
    have c1:decide ((s[k].toNat:Int)<=90)=false:=by rw[zM];omega
    have d1:decide (s[k].toNat<=90)=false:=by rw[zM];omega
    have n1:¬((s[k].toNat:Int)<=90):=by omega
    have HR:Hid (An s=false):=HB2.o (by unfold Bc;omega);clear HN HB2;go_wp2;go_ret;exact⟨Ad HR.o.symm,rfl⟩
   .have b1:((s[k].toNat:Int) != 95)=false:=by rw[zq];omega
    have b2:((s[k].toNat:Int)==95)=true:=by rw[xQ];omega
    have c1:decide ((s[k].toNat:Int)<=90)=false:=by rw[zM];omega
    have d1:decide (s[k].toNat<=90)=false:=by rw[zM];omega
    have n1:¬((s[k].toNat:Int)<=90):=by omega
    have HR:=zh (HN.o (by unfold Bc;omega));clear HN HB2;go_wp2;go_round
    case rel=>exact⟨k+1,by omega,by go_num,HR⟩
    case measure=>simp[intOf];omega
   .have b1:((s[k].toNat:Int) != 95)=true:=by rw[zm];omega
    have b2:((s[k].toNat:Int)==95)=false:=by rw[zN];omega
    have c1:decide ((s[k].toNat:Int)<=90)=false:=by rw[zM];omega
    have d1:decide (s[k].toNat<=90)=false:=by rw[zM];omega
    have n1:¬((s[k].toNat:Int)<=90):=by omega
    have HR:Hid (An s=false):=HB2.o (by unfold Bc;omega);clear HN HB2;go_wp2;go_ret;exact⟨Ad HR.o.symm,rfl⟩
   .have b1:((s[k].toNat:Int) != 95)=true:=by rw[zm];omega
    have b2:((s[k].toNat:Int)==95)=false:=by rw[zN];omega
    have c1:decide ((s[k].toNat:Int)<=90)=false:=by rw[zM];omega
    have d1:decide (s[k].toNat<=90)=false:=by rw[zM];omega
    have n1:¬((s[k].toNat:Int)<=90):=by omega
    have HR:=zh (HN.o (by unfold Bc;omega));clear HN HB2;go_wp2;go_round
    case rel=>exact⟨k+1,by omega,by go_num,HR⟩
    case measure=>simp[intOf];omega
   have b1:((s[k].toNat:Int) != 95)=true:=by rw[zm];omega
   have b2:((s[k].toNat:Int)==95)=false:=by rw[zN];omega
   have c0:decide ((s[k].toNat:Int)<=122)=false:=by rw[zM];omega
   have d0:decide (s[k].toNat<=122)=false:=by rw[zM];omega
   have n0:¬((s[k].toNat:Int)<=122):=by omega
   have c1:decide ((s[k].toNat:Int)<=90)=false:=by rw[zM];omega
   have d1:decide (s[k].toNat<=90)=false:=by rw[zM];omega
   have n1:¬((s[k].toNat:Int)<=90):=by omega
   have HR:Hid (An s=false):=HB2.o (by unfold Bc;omega);clear HN HB2;go_wp2;go_ret;exact⟨Ad HR.o.symm,rfl⟩
  obtain rfl:k=s.size:=by omega
  have HE:Hid (An s=(decide (0<s.size)&&decide (s.size<=24))):=HA.o fun i h=>hI.o i h h
  have q0:s.toList.isEmpty=decide (s.size=0):=by
   rw[ya,wv]
   cases s.data.toList<;>simp
  clear hI
  by_cases h0:s.size=0
  .have q1:s.toList=[]:=by simpa [h0] using q0
   have q2:(!s.toList.isEmpty)=false:=by rw[q0,zG h0];rfl
   clear q0;go_wp2;go_ret;exact⟨Ad (by rw[HE.o,zH (by omega)];rfl),rfl⟩
  have q2:(!s.toList.isEmpty)=true:=by rw[q0,zH h0];rfl
  have q1:¬s.toList=[]:=fun e=>by rw[e]at q0;rw[zH h0]at q0;cases q0
  clear q0
  by_cases h24:s.size<=24
  .go_wp2;go_ret;exact⟨Ad (by rw[HE.o,zG (by omega:0<s.size),zG h24,zG (by omega:(s.size:Int)<=24)];rfl),rfl⟩
  go_wp2;go_ret;exact⟨Ad (by rw[HE.o,zG (by omega:0<s.size),zH h24,zH (by omega:¬(s.size:Int)<=24)];rfl),rfl⟩
theorem Nw(s:ByteArray)(w:World)(hs:s.size<=9223372036854775807):
 Calls prog 58 #[.string s] w fun e w'=>e=.returned (.bool (An s))/\Below w.heap.size w w' :=
 (Ec s w hs).mono fun e w' h=>by
   obtain⟨rfl,rfl⟩:=h;exact⟨rfl,zI _ _⟩
theorem Yc(b:Nat):(6000:Int)%(b:Int)=((6000%b:Nat):Int):=(vy 6000 b).symm
theorem WY{s:ByteArray}(h:isN s=true)(h4:s.size<=4):val s<10000:=by
 have h1:=HJ (In h);have h2:s.data.toList.length<=4:=by have:=wv s;omega
 have h3:10^s.data.toList.length<=10^4:=zj (by omega) h2
 show AN s.data.toList<10000
 omega
theorem Wu(s:ByteArray)(h:isN s=true)(h4:s.size<=4)(W:World):Calls prog 117 #[.string s] W fun e w'=>e=.returned (.tuple #[.int .i64 (val s:Int),.nilIface])/\Below W.heap.size W w':=by
 have ha:=Sa (val s);rw[OH h]at ha;have hv:val s<10000:=WY h h4;rw[zF (by omega)]at ha;refine(Tryz.strconv_Atoi_ok s (by omega) _ ha W).mono ?_;rintro e w' ⟨rfl,rfl|⟨t,rfl⟩⟩
 .exact⟨rfl,zI _ _⟩
 exact⟨rfl,Go.Joins.below_bytesWorld _ _ _ _ (zB _)⟩
theorem LJ{g:Bool}{n d:ByteArray}(h:A4 g n d=true):isN n=true/\isN d=true/\val d≠0:=by
 unfold A4 at h;simp only[zr]at h;obtain⟨h1,h2,h3,_⟩:=h;exact⟨h1,h2,by simpa using h3⟩
theorem JF{g:Bool}{n d:ByteArray}(h:A4 g n d=false\/g=true\/4<n.size\/4<d.size):unitsN (g,n,d)=0:=zF h
theorem Nx{g:Bool}{n d:ByteArray}(h1:A4 g n d=true)(h2:g=false)(h3:n.size<=4)(h4:d.size<=4):unitsN (g,n,d)=if val d<val n\/6000%val d≠0 then 0 else val n*(6000/val d):=by
 unfold unitsN;rw[zE];rintro(h|h|h|h)
 .rw[h1]at h;cases h
 .rw[h2]at h;cases h
 .simp only[]at h;omega
 simp only[]at h;omega
theorem PX(g : Bool)(n d : ByteArray)(w : World)(hE : Env w)(hn:n.size<=140737488355328)(hd:d.size<=140737488355328):
 Calls prog 72 #[.agg #[.bool g,.string n,.string d]] w fun e w'=>e=.returned (.int .i64 (unitsN (g,n,d):Int))/\Below w.heap.size w w':=by
 have hv:Hid (∀W,Env W->Calls prog 97 #[.agg #[.bool g,.string n,.string d]] W fun e w'=>e=.returned (.bool (A4 g n d))/\Below W.heap.size W w'):=fun W hW=>AL g n d W hW hn hd;replace hE:=zh hE;have aa:Hid (Below w.heap.size w (w.alloc (.cells #[.bool g,.string n,.string d] 48))):=(zI _ w).alloc (zB _) _;have aj:Hid (B3 (w.alloc (.cells #[.bool g,.string n,.string d] 48)) w.heap.size g n d):=B3.new w g n d
 cases h1:A4 g n d with
 |false=>
  have HG:=zh (JF (g:=g) (n:=n) (d:=d) (.inl h1));rw[h1]at hv;clear h1;go_enter func72,ntmps72
  go_wp2_with fail
  refine(hv.o _ (hE.o.below aa.o)).q fun w1 hb=>?_;have ad:=aa.t hb;clear hb;go_wp2;go_ret;exact⟨by rw[HG.o];rfl,ad.o⟩
 |true=>
  rw[h1]at hv;obtain⟨q1,q2,q3⟩:=LJ h1
  by_cases ah:g=true\/4<n.size\/4<d.size
  .have HG:=zh (JF (g:=g) (n:=n) (d:=d) (.inr ah));clear h1 q1 q2 q3;go_enter func72,ntmps72
   go_wp2_with fail
   refine(hv.o _ (hE.o.below aa.o)).q fun w1 hb=>?_;have ad:=aa.t hb;obtain⟨f1,f2,f3,_,_,_⟩:=(aj.o.below hb).facts;have f4:=(aj.o.below hb).lt;clear hb
   have ak:g=true\/(g=false/\4<n.size)\/(g=false/\n.size<=4/\4<d.size):=by
    cases g
    .rcases ah with h|h|h
     .cases h
     .exact .inr (.inl ⟨rfl,h⟩)
     by_cases c:4<n.size
     .exact .inr (.inl ⟨rfl,c⟩)
     exact .inr (.inr ⟨rfl,by omega,h⟩)
    exact .inl rfl
   clear ah
   rcases ak with rfl|⟨rfl,z1⟩|⟨rfl,z1,z2⟩
   all_goals (
    go_wp2;go_ret;exact⟨by rw[HG.o];rfl,ad.o⟩)
  have z0:g=false:=by
   cases g
   .rfl
   exact absurd (.inl rfl) ah
  have z1:n.size<=4:=by omega
  have z2:d.size<=4:=by omega
  have HG:=Nx h1 z0 z1 z2;have ka:Hid (∀W,Calls prog 117 #[.string n] W fun e w'=>e=.returned (.tuple #[.int .i64 (val n:Int),.nilIface])/\Below W.heap.size W w'):=fun W=>Wu n q1 z1 W;have kb:Hid (∀W,Calls prog 117 #[.string d] W fun e w'=>e=.returned (.tuple #[.int .i64 (val d:Int),.nilIface])/\Below W.heap.size W w'):=fun W=>Wu d q2 z2 W;have v1:=WY q1 z1;have v2:=WY q2 z2;subst z0;clear h1 ah q1 q2;generalize hA:val n=a at *;generalize hB:val d=b at *;clear hA hB;have v3:1<=b:=by omega
  have ak:(b<a)\/(a<=b/\6000%b≠0)\/(a<=b/\6000%b=0):=by omega
  rcases ak with c1|⟨c1,c2⟩|⟨c1,c2⟩
  .rw[zF (.inl c1)]at HG;replace HG:=zh HG;go_enter func72,ntmps72
   go_wp2_with fail
   refine(hv.o _ (hE.o.below aa.o)).q fun w1 hb=>?_;have ad:=aa.t hb;have ae:=zh (aj.o.below hb);obtain⟨f1,f2,f3,_,_,_⟩:=ae.o.facts;have f4:=ae.o.lt;clear hb
   go_wp2_with fail
   refine(ka.o _).q fun w2 hb=>?_;have af:=ad.t hb;have ag:=zh (ae.o.below hb);clear hb f1 f2 f3 f4;obtain⟨f1,f2,f3,_,_,_⟩:=ag.o.facts;have f4:=ag.o.lt
   go_wp2_with fail
   refine(kb.o _).q fun w3 hb=>?_;have ai:=af.t hb;clear hb f1 f2 f3 f4;go_wp2;go_ret;exact⟨by rw[HG.o];rfl,ai.o⟩
  .rw[zF (.inr c2)]at HG;replace HG:=zh HG;have t1:((6000:Int)%(b:Int) != 0)=true:=by rw[zm,Yc];omega
   go_enter func72,ntmps72
   go_wp2_with fail
   refine(hv.o _ (hE.o.below aa.o)).q fun w1 hb=>?_;have ad:=aa.t hb;have ae:=zh (aj.o.below hb);obtain⟨f1,f2,f3,_,_,_⟩:=ae.o.facts;have f4:=ae.o.lt;clear hb
   go_wp2_with fail
   refine(ka.o _).q fun w2 hb=>?_;have af:=ad.t hb;have ag:=zh (ae.o.below hb);clear hb f1 f2 f3 f4;obtain⟨f1,f2,f3,_,_,_⟩:=ag.o.facts;have f4:=ag.o.lt
   go_wp2_with fail
   refine(kb.o _).q fun w3 hb=>?_;have ai:=af.t hb;clear hb f1 f2 f3 f4;go_wp2;go_ret;exact⟨by rw[HG.o];rfl,ai.o⟩
  rw[zE (by omega)]at HG;replace HG:=zh HG;have t1:((6000:Int)%(b:Int) != 0)=false:=by rw[zq,Yc];omega
  have t2:a*(6000/b)<=6000:=zQ (xB _ c1) (Nat.mul_div_le _ _);have t3:(0:Int)<=(a:Int)*((6000:Int)/(b:Int)):=by have:=Int.natCast_nonneg (a*(6000/b));rw[xU]at this;exact this
  have t4 : (a : Int) * ((6000 : Int) / (b : Int)) <= 6000 := by have h:((a*(6000/b):Nat):Int)<=6000:=by omega
                                                                 rw[xU]at h;exact h
  have HP:Hid (((a*(6000/b):Nat):Int)=(a:Int)*((6000:Int)/(b:Int))):=by rw[xU];rfl
  clear t2;go_enter func72,ntmps72
  go_wp2_with fail
  refine(hv.o _ (hE.o.below aa.o)).q fun w1 hb=>?_;have ad:=aa.t hb;have ae:=zh (aj.o.below hb);obtain⟨f1,f2,f3,_,_,_⟩:=ae.o.facts;have f4:=ae.o.lt;clear hb
  go_wp2_with fail
  refine(ka.o _).q fun w2 hb=>?_;have af:=ad.t hb;have ag:=zh (ae.o.below hb);clear hb f1 f2 f3 f4;obtain⟨f1,f2,f3,_,_,_⟩:=ag.o.facts;have f4:=ag.o.lt
  go_wp2_with fail
  refine(kb.o _).q fun w3 hb=>?_;have ai:=af.t hb;clear hb f1 f2 f3 f4;go_wp2;go_ret;exact⟨by rw[HG.o,HP.o];rfl,ai.o⟩
end Ci
end
section
open Go.Maps (Keyed)
open Go.RowKit
namespace Ci
def PY(v:Value):Option (DataW Value×List MemPlace):=some (.held v,[])
def Iu{α:Type}[DecidableEq α](f:α->Option Value)(x:α)(v:Option Value):α->Option Value:=fun y=>if y=x then v else f y
theorem Be{α:Type}[DecidableEq α](f:α->Option Value)(x:α)(v:Option Value):Iu f x v x=v:=zF rfl
theorem Bh{α:Type}[DecidableEq α]{f:α->Option Value}{x y:α}{v:Option Value}(h:y≠x):Iu f x v y=f y:=zE h
def MapK{α:Type}(P:Program)(k:TypeId)(κ:α->Lit)(w:World)(b c:Nat)(f:α->Option Value):Prop :=
 ∃D:DataW Value,w.ownsMap P k PY b c D/\Maps.size D=c/\∀x,Maps.has D (κ x)=(f x).isSome/\∀z,D.atKey (κ x) z=match f x with|some v=>.held v|none=>z
section
variable {α:Type} {P:Program} {k t e:TypeId} {κ:α->Lit} {w w':World} {b c:Nat} {f:α->Option Value}
theorem JG{R:Value->Option (DataW Value×List MemPlace)}{n:Nat}{D:DataW Value}(h:w.ownsMap P k R b n D):w.ownsMap P k R b (Maps.size D) D:=by
 obtain⟨es,clock,hb,F,_,rfl⟩:=h;refine⟨es,clock,hb,F,?_,rfl⟩;simp[Maps.size,length_sorted]
theorem MapK.made(w:World)(P:Program)(k:TypeId)(κ:α->Lit):MapK P k κ (w.alloc (.map #[] 0)) w.heap.size 0 fun _=>none :=
 ⟨.map [],World.ownsMap_made w P k PY,rfl,fun _=>⟨rfl,fun _=>rfl⟩⟩
theorem MapK.lt(h:MapK P k κ w b c f):b<w.heap.size:=by obtain⟨D,h,_⟩:=h;exact h.lt
theorem MapK.kept{row:Option Nat}(h:MapK P k κ w b c f)(hg:w.grownBy w' row)(d:some b≠row):MapK P k κ w' b c f:=by
 obtain⟨D,h,r⟩:=h;exact⟨D,h.kept hg d,r⟩
theorem MapK.block(h:MapK P k κ w b c f)(hb:w'.heap[b]? = w.heap[b]?):MapK P k κ w' b c f:=by
 obtain⟨D,⟨es,clock,h1,h2⟩,r⟩:=h;exact⟨D,⟨es,clock,hb.trans h1,h2⟩,r⟩
theorem MapK.below(h:MapK P k κ w b c f)(hb:Below w.heap.size w w'):MapK P k κ w' b c f:=h.block (hb.block b h.lt)
theorem MapK.alloc(h:MapK P k κ w b c f)(o:Obj):MapK P k κ (w.alloc o) b c f:=by
 obtain⟨D,h,r⟩:=h;exact⟨D,h.alloc o,r⟩
theorem MapK.drew(h:MapK P k κ w b c f):MapK P k κ w.drew b c f:=h
theorem MapK.set(h:MapK P k κ w b c f){a:Addr}(ha:b≠a.block)(u:Value):MapK P k κ (w.setCell a u) b c f:=by
 obtain⟨D,h,r⟩:=h;exact⟨D,h.setCell ha u,r⟩
theorem MapK.congr{g:α->Option Value}(h:MapK P k κ w b c f)(e:∀x,f x=g x):MapK P k κ w b c g:=by rwa [<-funext e]
theorem MapK.look(h:MapK P k κ w b c f)(K:Keyed P k)(ht:P.underlying t=some (.map k e)){z:Value}(hz:(zeroValue e).run P w=.ok z w){key:Value}{x:α}(d:keyOf P k key=some (κ x)):
 (Instr.lookup t (.map (some b)) key false).run P w=.ok ((f x).getD z) w:=by
 obtain⟨D,h,_,hv⟩:=h;obtain⟨v,ps,aa,hR⟩:=h.lookup K ht hz (zd:=.held z) (zp:=[]) rfl d;rw[aa];rw[(hv x).2]at hR;simp only[PY,Option.some.injEq,Prod.mk.injEq]at hR
 cases hf:f x with
 |none=>rw[hf]at hR;simp only[DataW.held.injEq]at hR;rw[hR.1];rfl
 |some u=>rw[hf]at hR;simp only[DataW.held.injEq]at hR;rw[hR.1];rfl
theorem MapK.look_ok(h:MapK P k κ w b c f)(K:Keyed P k)(ht:P.underlying t=some (.map k e)){z:Value}(hz:(zeroValue e).run P w=.ok z w){key:Value}{x:α}(d:keyOf P k key=some (κ x)):
 (Instr.lookup t (.map (some b)) key true).run P w=.ok (.tuple #[(f x).getD z,.bool (f x).isSome]) w:=by
 obtain⟨D,h,_,hv⟩:=h;obtain⟨v,ps,aa,hR⟩:=h.look_ok K ht hz (zd:=.held z) (zp:=[]) rfl d;rw[aa,(hv x).1];rw[(hv x).2]at hR;simp only[PY,Option.some.injEq,Prod.mk.injEq]at hR
 cases hf:f x with
 |none=>rw[hf]at hR;simp only[DataW.held.injEq]at hR;rw[hR.1];rfl
 |some u=>rw[hf]at hR;simp only[DataW.held.injEq]at hR;rw[hR.1];rfl
theorem MapK.put[DecidableEq α](h:MapK P k κ w b c f)(hκ:∀x y,κ x=κ y->x=y)(K:Keyed P k)(ht:P.underlying t=some (.map k e))(hn:c<maxLen){key:Value}{x:α}(d:keyOf P k key=some (κ x))(v:Value):
 ∃w',(Instr.mapUpdate t (.map (some b)) key v).run P w=.ok () w'/\MapK P k κ w' b (if (f x).isSome then c else c+1) (Iu f x (some v))/\w.grownBy w' (some b):=by
 obtain⟨D,h,hs,hv⟩:=h;obtain⟨w',ad,h2,hg⟩:=h.update K ht hn d (R:=PY) (val:=v) rfl
 have ae:Maps.size (D.put (κ x) (.held v))=if (f x).isSome then c else c+1:=by
  rw[Maps.size_put (h.tidy K),hs,(hv x).1]
 refine⟨w',ad,⟨_,by have:=JG h2;rwa [ae]at this,ae,fun y=>?_⟩,hg⟩
 by_cases hy:y=x
 .subst hy;rw[Be];exact⟨Maps.has_put_same h.isMap (K.key d) _,fun z=>Maps.atKey_put_same h.isMap (K.key d) _ z⟩
 have aa:κ y≠κ x:=fun e=>hy (hκ _ _ e);rw[Bh hy,Maps.has_put_other aa];refine⟨(hv y).1,fun z=>?_⟩;rw[Maps.atKey_put_other aa];exact(hv y).2 z
theorem MapK.del[DecidableEq α](h:MapK P k κ w b c f)(hκ:∀x y,κ x=κ y->x=y)(K:Keyed P k)(ht:P.underlying t=some (.map k e)){key:Value}{x:α}(d:keyOf P k key=some (κ x))(ty:TypeId):
 ∃w',(Builtin.delete_ #[t,k] ty #[.map (some b),key]).run P w=.ok (.tuple #[]) w'/\MapK P k κ w' b (if (f x).isSome then c-1 else c) (Iu f x none)/\w.grownBy w' (some b):=by
 obtain⟨D,h,hs,hv⟩:=h;obtain⟨w',ad,h2,hg⟩:=h.drop K ht d ty
 have ae:Maps.size (D.del (κ x))=if (f x).isSome then c-1 else c:=by
  have:=Maps.size_del (k:=κ x) (h.tidy K);rw[hs,(hv x).1]at this
  split<;>simp_all<;>omega
 refine⟨w',ad,⟨_,by have:=JG h2;rwa [ae]at this,ae,fun y=>?_⟩,hg.grown⟩
 by_cases hy:y=x
 .subst hy;rw[Be];exact⟨Maps.has_del_same,fun z=>Maps.atKey_del_same z⟩
 have aa:κ y≠κ x:=fun e=>hy (hκ _ _ e);rw[Bh hy,Maps.has_del_other aa];refine⟨(hv y).1,fun z=>?_⟩;rw[Maps.atKey_del_other aa];exact(hv y).2 z
theorem MapK.len(h:MapK P k κ w b c f)(ht:P.underlying t=some (.map k e))(ty:TypeId):(Builtin.len_ #[t] ty #[.map (some b)]).run P w=.ok (.int .i64 c) w:=by
 obtain⟨D,h,hs,_⟩:=h;rw[h.len ht,hs]
end
def κi(a:Int):Lit:=.int .i64 a
theorem GF:∀x y,κi x=κi y->x=y:=fun x y h=>by injection h
theorem EB{P:Program}{k:TypeId}(hk:P.underlying k=some (.int .i64)){a:Int}(h1:-9223372036854775808<=a)(h2:a<=9223372036854775807):keyOf P k (.int .i64 a)=some (κi a):=Maps.keyOf_int_mk hk (WalkArith.wf_i64 ⟨h1,h2⟩)
end Ci
end
section
open Go.RowKit Go.Shelf
namespace Ci
open Nt
def Bl:Code->List Code
 |.loop c=>Bl c
 |.seq a b=>Bl a++Bl b
 |.block _ c=>Bl c
 |.scope c=>Bl c
 |.cond _ a b=>Bl a++Bl b
 |.region a b c=>[.region a b c]
 |_=>[]
noncomputable def Yd(j:Nat):Code:=((Tryz.f71.body.map Bl).bind fun l=>l[j]?).getD .skip
theorem Ye{c0 c1 c2 c3 c4 c6 c7 c9 d aa ad ae af ag ah ai aj ak al am an ao ap aq ar au av aw ax ay az aA aB aC aD aE aF aG aH aI aJ aK aL aM aN aO aP aQ aR aS aT aU aV aW aX aY aZ a0 a1 a2 a3 a4 a5 a6 a7 a8 a9 ba bb bc bd be bf bg bh bi bj bk bm bn bo bp bq br bs bt bu bv bw bx bz bA bB bC:Value}{Q:Exit->Act->World->Prop}(kb lb:Nat)(co ho lc lh:Int)(r:Bool)(hr:r=decide (lc<co\/(lc=co/\lh<ho)))(w:World)(u2:w.cell? ⟨kb,0,none⟩=some (.int .i64 co))(u3:w.cell? ⟨kb,1,none⟩=some (.int .i64 ho))(u4:w.cell? ⟨lb,0,none⟩=some (.int .i64 lc))(u5:w.cell? ⟨lb,1,none⟩=some (.int .i64 lh))
 (h:∀u33 u34 u35 u36 u37 u38 u39 u40 u41 u42 u43 u44 u45 u46 u47 u48 u49 u50 u51:Value,Q .normal ⟨#[c0,c1,c2,c3,c4,.pointer (some ⟨lb,0,none⟩),c6,c7,.pointer (some ⟨kb,0,none⟩),c9,.bool r,d,aa,ad,ae,af,ag,ah,ai,aj,ak,al,am,an,ao,ap,aq,ar,au,av,aw,ax,ay,u33,u34,u35,u36,u37,u38,u39,u40,u41,u42,u43,u44,u45,u46,u47,u48,u49,u50,u51,az,aA,aB,aC,aD,aE,aF,aG,aH,aI,aJ,aK,aL,aM,aN,aO,aP,aQ,aR,aS,aT,aU,aV,aW,aX,aY,aZ,a0,a1,a2,a3,a4,a5,a6,a7,a8,a9,ba,bb,bc,bd,be,bf,bg],[]⟩ w):
 Code.wp prog (Yd 7) Q ⟨#[c0,c1,c2,c3,c4,.pointer (some ⟨lb,0,none⟩),c6,c7,.pointer (some ⟨kb,0,none⟩),c9,bh,d,aa,ad,ae,af,ag,ah,ai,aj,ak,al,am,an,ao,ap,aq,ar,au,av,aw,ax,ay,bi,bj,bk,bm,bn,bo,bp,bq,br,bs,bt,bu,bv,bw,bx,bz,bA,bB,bC,az,aA,aB,aC,aD,aE,aF,aG,aH,aI,aJ,aK,aL,aM,aN,aO,aP,aQ,aR,aS,aT,aU,aV,aW,aX,aY,aZ,a0,a1,a2,a3,a4,a5,a6,a7,a8,a9,ba,bb,bc,bd,be,bf,bg],[]⟩ w:=by
 conv=>arg 2;whnf
 conv=>arg 4;zeta
 replace h:=zh h;have bD:(lc<co)\/(co=lc/\lh<ho)\/(co<lc)\/(co=lc/\ho<=lh):=by omega
 rcases bD with r1|⟨r1,r2⟩|r1|⟨r1,r2⟩
 .have m1:(co==lc)=false:=by rw[zN];omega
  obtain rfl:r=true:=by rw[hr,zG (.inl r1)]
  clear hr;go_wp2;exact h.o ..
 .have m1:(co==lc)=true:=by rw[xQ];exact r1
  have m2:co<=lc:=by omega
  obtain rfl:r=true:=by rw[hr,zG (.inr ⟨r1.symm,r2⟩)]
  clear hr r1;go_wp2;exact h.o ..
 .have m1:(co==lc)=false:=by rw[zN];omega
  obtain rfl:r=false:=by rw[hr,zH (by omega)]
  have m3:decide (lc<co)=false:=zH (by omega);clear hr;go_wp2;exact h.o ..
 have m1:(co==lc)=true:=by rw[xQ];exact r1
 have m2:co<=lc:=by omega
 obtain rfl:r=false:=by rw[hr,zH (by omega)]
 have m3:decide (lc<co)=false:=zH (by omega);have m4:decide (lh<ho)=false:=zH (by omega);clear hr r1;go_wp2;exact h.o ..
theorem Yf{c0 c2 c3 c5 c6 d aa ad ae af ag ah ai aj ak al am an ao ap aq ar au av aw ax ay az aA aB aC aD aE aF aG aH aI aJ aK aL aM aN aO aP aQ aR aS aT aU aV aW aX aY aZ a0 a1 a2 a3 a4 a5 a6 a7 a8 a9 ba bb bc bd be bf bg bh bi bj a78 a79 bk bm bn bo bp bq br bs bt a89 bu bv bw bx:Value}{Q:Exit->Act->World->Prop}(xb kb nb mb n p s:Nat)(co ho:Int)(r q:Bool)(hq:q=decide (co<0\/(n:Int)<=co\/ho<0\/(n:Int)<=ho\/co=ho\/r=false\/p=0\/6000<s))(w:World)(bB:p<=6000)(hs:s<=12000)(hn:n<=140737488355328)(u1:w.cell? ⟨xb,0,none⟩=some (.int .i64 co))(u2:w.cell? ⟨kb,0,none⟩=some (.int .i64 co))(u3:w.cell? ⟨kb,1,none⟩=some (.int .i64 ho))(u4:w.cell? ⟨nb,0,none⟩=some (.int .i64 (n:Int)))(hk:(Instr.lookup 132 (.map (some mb)) (.int .i64 co) false).run prog w=.ok (.int .i64 (s:Int)) w)
 (h:∀u52 u53 u54 u55 u56 u57 u58 u59 u60 u61 u62 u63 u64 u65 u66 u67 u68 u69 u70 u71 u72 u73 u74 u75 u76 u77 u78 u79 u80 u81 u82 u83 u84 u85 u86 u87 u88 u89 u90 u91 u92:Value,Q .normal ⟨#[c0,.pointer (some ⟨nb,0,none⟩),c2,c3,.map (some mb),c5,c6,.pointer (some ⟨xb,0,none⟩),.pointer (some ⟨kb,0,none⟩),.int .i64 (p:Int),.bool r,d,aa,ad,ae,af,ag,ah,ai,aj,ak,al,am,an,ao,ap,aq,ar,au,av,aw,ax,ay,az,aA,aB,aC,aD,aE,aF,aG,aH,aI,aJ,aK,aL,aM,aN,aO,aP,aQ,aR,u52,u53,u54,u55,u56,u57,u58,u59,u60,u61,u62,u63,u64,u65,u66,u67,u68,u69,u70,u71,u72,u73,u74,u75,u76,u77,u78,u79,u80,u81,u82,u83,u84,u85,u86,u87,u88,u89,u90,u91,u92,.bool q,aS,aT],[]⟩ w):
 Code.wp prog (Yd 8) Q ⟨#[c0,.pointer (some ⟨nb,0,none⟩),c2,c3,.map (some mb),c5,c6,.pointer (some ⟨xb,0,none⟩),.pointer (some ⟨kb,0,none⟩),.int .i64 (p:Int),.bool r,d,aa,ad,ae,af,ag,ah,ai,aj,ak,al,am,an,ao,ap,aq,ar,au,av,aw,ax,ay,az,aA,aB,aC,aD,aE,aF,aG,aH,aI,aJ,aK,aL,aM,aN,aO,aP,aQ,aR,aU,aV,aW,aX,aY,aZ,a0,a1,a2,a3,a4,a5,a6,a7,a8,a9,ba,bb,bc,bd,be,bf,bg,bh,bi,bj,a78,a79,bk,bm,bn,bo,bp,bq,br,bs,bt,a89,bu,bv,bw,bx,aS,aT],[]⟩ w:=by
 conv=>arg 2;whnf
 conv=>arg 4;zeta
 replace h:=zh h;have bz:(co<0)\/(0<=co/\(n:Int)<=co)\/(0<=co/\co<n/\ho<0)\/(0<=co/\co<n/\0<=ho/\(n:Int)<=ho)\/(0<=co/\co<n/\0<=ho/\ho<n/\co=ho)\/(0<=co/\co<n/\0<=ho/\ho<n/\co≠ho):=by omega
 rcases bz with b1|⟨b1,b2⟩|⟨b1,b2,b3⟩|⟨b1,b2,b3,b4⟩|⟨b1,b2,b3,b4,b5⟩|⟨b1,b2,b3,b4,b5⟩
 .have q0:True:=trivial;clear q0;obtain rfl:q=true:=by rw[hq,zG (.inl b1)]
  clear hq;go_wp2;exact h.o ..
 .have q0:True:=trivial;clear q0;obtain rfl:q=true:=by rw[hq,zG (.inr (.inl b2))]
  clear hq;go_wp2;exact h.o ..
 .have q0:True:=trivial;clear q0;obtain rfl:q=true:=by rw[hq,zG (.inr (.inr (.inl b3)))]
  clear hq;go_wp2;exact h.o ..
 .have q0:True:=trivial;clear q0;obtain rfl:q=true:=by rw[hq,zG (.inr (.inr (.inr (.inl b4))))]
  clear hq;go_wp2;exact h.o ..
 .have m5:(co==ho)=true:=by rw[xQ];exact b5
  obtain rfl:q=true:=by rw[hq,zG (.inr (.inr (.inr (.inr (.inl b5)))))]
  clear hq b5;go_wp2;exact h.o ..
 have m5:(co==ho)=false:=by rw[zN];exact b5
 cases r with
 |false=>
  obtain rfl:q=true:=by rw[hq,zG (.inr (.inr (.inr (.inr (.inr (.inl rfl))))))]
  clear hq;go_wp2;exact h.o ..
 |true=>
  have bA:p=0\/(1<=p/\6000<s)\/(1<=p/\s<=6000):=by omega
  rcases bA with p1|⟨p1,p2⟩|⟨p1,p2⟩
  .have m6:((p:Int)==0)=true:=by rw[xQ];omega
   have m7:(p==0)=true:=by rw[xQ];exact p1
   obtain rfl:q=true:=by rw[hq,zG (.inr (.inr (.inr (.inr (.inr (.inr (.inl p1)))))))]
   clear hq;replace p1:=zh p1;go_wp2;exact h.o ..
  .have m6:((p:Int)==0)=false:=by rw[zN];omega
   have m7:(p==0)=false:=by rw[zN];omega
   have m8:decide (6000<(s:Int))=true:=zG (by omega);have m9:decide (6000<s)=true:=zG p2;obtain rfl:q=true:=by rw[hq,zG (.inr (.inr (.inr (.inr (.inr (.inr (.inr p2)))))))]
   clear hq;go_wp2;exact h.o ..
  have m6:((p:Int)==0)=false:=by rw[zN];omega
  have m7:(p==0)=false:=by rw[zN];omega
  obtain rfl:q=false:=by rw[hq,zH];rintro(c|c|c|c|c|c|c|c)<;>first|omega|exact b5 c|cases c
  have m8:decide (6000<(s:Int))=false:=zH (by omega);have m9:decide (6000<s)=false:=zH (by omega);have bC:decide (co<0)=false:=zH (by omega);have bD:decide ((n:Int)<=co)=false:=zH (by omega);have bE:decide (ho<0)=false:=zH (by omega);have bF:decide ((n:Int)<=ho)=false:=zH (by omega);clear hq;go_wp2;exact h.o ..
def Bk(W:World)(b:Nat)(t:TypeId)(l:List Value):Prop:=W.heap[b]? = some (.cells l.toArray t (0,0))
section
variable {W W':World} {b:Nat} {t:TypeId} {l:List Value}
theorem Bk.lt(h:Bk W b t l):b<W.heap.size:=(Array.getElem?_eq_some_iff.1 h).1
theorem Bk.cell(h:Bk W b t l){j:Nat}{v:Value}(hj:l[j]? = some v):W.cell? ⟨b,j,none⟩=some v:=by
 unfold Bk at h;simp[World.cell?,h,hj]
theorem Bk.c0(h:Bk W b t l){v:Value}(hj:l[0]?=some v:=by exact rfl):W.cell? ⟨b,0,none⟩=some v:=h.cell hj
theorem Bk.c1(h:Bk W b t l){v:Value}(hj:l[1]?=some v:=by exact rfl):W.cell? ⟨b,1,none⟩=some v:=h.cell hj
theorem Bk.c2(h:Bk W b t l){v:Value}(hj:l[2]?=some v:=by exact rfl):W.cell? ⟨b,2,none⟩=some v:=h.cell hj
theorem Bk.c3(h:Bk W b t l){v:Value}(hj:l[3]?=some v:=by exact rfl):W.cell? ⟨b,3,none⟩=some v:=h.cell hj
theorem Bk.c4(h:Bk W b t l){v:Value}(hj:l[4]?=some v:=by exact rfl):W.cell? ⟨b,4,none⟩=some v:=h.cell hj
theorem Bk.c5(h:Bk W b t l){v:Value}(hj:l[5]?=some v:=by exact rfl):W.cell? ⟨b,5,none⟩=some v:=h.cell hj
theorem Bk.c6(h:Bk W b t l){v:Value}(hj:l[6]?=some v:=by exact rfl):W.cell? ⟨b,6,none⟩=some v:=h.cell hj
theorem Bk.c7(h:Bk W b t l){v:Value}(hj:l[7]?=some v:=by exact rfl):W.cell? ⟨b,7,none⟩=some v:=h.cell hj
theorem Bk.frozen(h:Bk W b t l)(j:Nat):W.frozen? ⟨b,j,none⟩=false:=by
 unfold Bk at h;simp[World.frozen?,h]
theorem Bk.new(w:World)(t:TypeId)(l:List Value):Bk (w.alloc (.cells l.toArray t)) w.heap.size t l:=ym _ _
theorem Bk.below(h:Bk W b t l)(hb:Below W.heap.size W W'):Bk W' b t l:=(hb.block b h.lt).trans h
theorem Bk.alloc(h:Bk W b t l)(o:Obj):Bk (W.alloc o) b t l:=(yP W o b h.lt).trans h
theorem Bk.grown{row:Option Nat}(h:Bk W b t l)(hg:W.grownBy W' row)(d:some b≠row):Bk W' b t l:=(hg.block b h.lt d).trans h
theorem Bk.far(h:Bk W b t l){p:Addr}(hp:b≠p.block)(v:Value):Bk (W.setCell p v) b t l:=(zg _ _ _ _ hp).trans h
theorem Bk.set(h:Bk W b t l)(j:Nat)(v:Value):Bk (W.setCell ⟨b,j,none⟩ v) b t (l.set j v):=by
 unfold Bk at h ⊢;simp[World.setCell,Array.getElem?_modify,h]
end
theorem sumU_take{l:List Lk}{k:Nat}(h:k<l.length)(c:Int):sumU (l.take (k+1)) c=sumU (l.take k) c+if l[k].1=c then unitsN (lkP l[k]) else 0:=by
 unfold sumU;rw[zP h,yQ,yD,List.sum_append]
 congr 1
 by_cases e:l[k].1=c
 .rw[zF e,zk,zF (zG e)];simp
 rw[zE e,zk,zE (by simpa using e)];simp
theorem OJ{n:Nat}{l:List Lk}:∀k,k<=l.length->(∀i (h:i<l.length),i<k->CB n l i h)->∀c,sumU (l.take k) c<=6000:=by
 intro k
 induction k with
 |zero=>intro _ _ c;simp[sumU]
 |succ k ih=>
  intro hk h c;have h1:=ih (by omega) (fun i hi h2=>h i hi (by omega)) c;rw[sumU_take (by omega)]
  by_cases e:l[k].1=c
  .have h2:=(h k (by omega) (by omega)).2.2;rw[sumU_take (by omega),zF rfl,e]at h2;rw[zF e];exact h2
  rw[zE e];omega
def Vm(W:World)(b:Nat)(l:List Lk)(k:Nat):Prop:=∃c f,MapK prog 3 κi W b c f/\c<=k/\∀y:Int,(f y).getD (.int .i64 0)=.int .i64 (sumU (l.take k) y:Int)
def Za(l:List Lk)(k:Nat):List Value:=match l[k-1]? with
 |some x=>if k=0 then [.int .i64 (-1),.int .i64 (-1)] else [.int .i64 x.1,.int .i64 x.2.1]
 |none=>[.int .i64 (-1),.int .i64 (-1)]
def Ed(l:List Lk)(k:Nat):Int:=match l[k-1]? with
 |some x=>if k=0 then -1 else x.1
 |none=>-1
def EP(l:List Lk)(k:Nat):Int:=match l[k-1]? with
 |some x=>if k=0 then -1 else x.2.1
 |none=>-1
theorem GG(l:List Lk):Ed l 0=-1/\EP l 0=-1:=by
 unfold Ed EP
 cases l[0-1]?<;>simp
theorem JH{l:List Lk}{k:Nat}(h:k<l.length):Ed l (k+1)=l[k].1/\EP l (k+1)=l[k].2.1:=by
 unfold Ed EP;rw[vB,ze h];simp
theorem S9{l:List Lk}{k:Nat}(h:k<l.length)(h0:0<=l[k].1):(0<k->Rise (l[k-1]'(by omega)) l[k])<->(Ed l k<l[k].1\/(Ed l k=l[k].1/\EP l k<l[k].2.1)):=by
 by_cases e:k=0
 .subst e;have:=GG l;constructor
  .intro _;left;omega
  intro _ hc;omega
 obtain⟨j,rfl⟩:∃j,k=j+1:=⟨k-1,by omega⟩;have hj:j<l.length:=by omega
 obtain⟨e1,e2⟩:=JH hj;rw[e1,e2];have hg:l[j+1-1]'(by omega)=l[j]:=by simp
 rw[hg];unfold Rise;exact⟨fun h=>h (by omega),fun h _=>h⟩
def Vn(w:World)(n:Nat)(l:List Lk)(mb lb:Nat)(k:Nat)(wr:World):Prop :=
 Hid (Below w.heap.size w wr)/\Hid (Vm wr mb l k)/\Hid (Bk wr lb 69 [.int .i64 (Ed l k),.int .i64 (EP l k)])/\Hid (∀i (h:i<l.length),i<k->CB n l i h)
theorem FO:Go.Maps.Keyed prog 3:=Go.Maps.int_keyed underlying3
theorem Iv(w:World):(zeroValue 3).run prog w=.ok (.int .i64 0) w:=by kernel_rfl
theorem SA(A:Option Addr)(cap n nb:Nat)(l:List Lk)(w:World)(hE:Env w)(hl:InLk w A l)(bo:l.length<=140737488355328)(hn:n<=140737488355328)(aC:w.cell? ⟨nb,0,none⟩=some (.int .i64 (n:Int)))
 (hz:∀x,x∈l->x.2.2.2.1.size<=140737488355328/\x.2.2.2.2.size<=140737488355328)(hi:∀x,x∈l->(-9223372036854775808<=x.1/\x.1<=9223372036854775807)/\(-9223372036854775808<=x.2.1/\x.2.1<=9223372036854775807)):
 Calls prog 71 #[.slice A l.length cap,.pointer (some ⟨nb,0,none⟩)] w fun e w'=>e=.returned (.bool (EM n l))/\Below w.heap.size w w':=by
 have bi:=@run_makeMap prog;have bj:=xq w _ aC;have aV:Hid (Vm ((w.alloc (.map #[] 0)).alloc (.cells #[.int .i64 (-1),.int .i64 (-1)] 69)) w.heap.size l 0):=⟨0,_,(MapK.made w _ _ _).alloc _,zB _,fun y=>rfl⟩
 have aT:Hid (Bk ((w.alloc (.map #[] 0)).alloc (.cells #[.int .i64 (-1),.int .i64 (-1)] 69)) (w.heap.size+1) 69 [.int .i64 (Ed l 0),.int .i64 (EP l 0)]):=by
  have h:=Bk.new (w.alloc (.map #[] 0)) 69 [.int .i64 (-1),.int .i64 (-1)];rw[zV]at h;rw[(GG l).1,(GG l).2];exact h
 have aQ:Hid (Below w.heap.size w ((w.alloc (.map #[] 0)).alloc (.cells #[.int .i64 (-1),.int .i64 (-1)] 69))):=((zI _ w).alloc (zB _) _).alloc (by simp) _;replace hE:=zh hE;replace hl:=zh hl;replace hz:=zh hz;replace hi:=zh hi;replace aC:=zh aC;have bd:=zh (fun(k:Nat) (h:k<l.length) (hb:¬CB n l k h)=>Sr (n:=n) (l:=l) h hb);have bc:=zh (Ss (n:=n) (l:=l));go_enter func71,ntmps71;go_wp2;clear bi
 go_loopw [15] (fun i wr=>∃k:Nat,k<=l.length/\i=.int .i64 (k:Int)/\Hid (Vn w n l w.heap.size (w.heap.size+1) k wr)) (fun i _=>l.length-(intOf i).toNat)
 case atStart=>exact⟨0,zS _,rfl,aQ,aV,aT,fun i _ h=>absurd h (yB _)⟩
 case round=>
  obtain⟨k,hk,rfl,hI⟩:=hrel;clear aV aT aQ;obtain⟨hB,hM,hL,hA⟩:=hI.o
  by_cases hlt:k<l.length
  .obtain ⟨b,o,rfl,bh,hc⟩:=(hl.o.below hB.o) (by omega);obtain⟨e1,e2,e3,e4,e5⟩:=hc k hlt;have ba:=hz.o l[k] (zO hlt);have aY:=hi.o l[k] (zO hlt);have av:=zh (bd.o k hlt);have ao:=zh (sumU_take hlt);have ag:=zh (S9 hlt);have aw:=zh (JH hlt);have a6:=OJ k hk hA.o
   have aP:Hid (CB n l k hlt->∀i (h:i<l.length),i<k+1->CB n l i h):=fun h i hi h2=>by
    by_cases e:i=k
    .subst e;exact h
    exact hA.o i hi (by omega)
   have af:Hid (CB n l k hlt<->(Own n l[k]/\(0<k->Rise (l[k-1]'(by omega)) l[k])/\sumU (l.take (k+1)) l[k].1<=6000)):=wH;obtain⟨x,hx⟩:∃x,x=l[k]:=⟨_,rfl⟩;rw[<-hx]at e1 e2 e3 e4 e5 ba aY ao ag aw af;obtain⟨co,ho,g,nn,dd⟩:=x;replace e1:wr.cell? ⟨b,o+k*5,none⟩=some (.int .i64 co):=e1;replace e2:wr.cell? ⟨b,o+k*5+1,none⟩=some (.int .i64 ho):=e2;replace e3:wr.cell? ⟨b,o+k*5+2,none⟩=some (.bool g):=e3;replace e4:wr.cell? ⟨b,o+k*5+3,none⟩=some (.string nn):=e4;replace e5:wr.cell? ⟨b,o+k*5+4,none⟩=some (.string dd):=e5;obtain⟨⟨i1,i2⟩,i3,i4⟩:=aY;replace i1:-9223372036854775808<=co:=i1;replace i2:co<=9223372036854775807:=i2;replace i3:-9223372036854775808<=ho:=i3;replace i4:ho<=9223372036854775807:=i4;obtain⟨z1,z2⟩:=ba;replace z1:nn.size<=140737488355328:=z1;replace z2:dd.size<=140737488355328:=z2;have a5:=a6 co;have aN:=Iq (g,nn,dd);have ku:Hid (∀W,Env W->Calls prog 72 #[.agg #[.bool g,.string nn,.string dd]] W fun e w'=>e=.returned (.int .i64 (unitsN (g,nn,dd):Int))/\Below W.heap.size W w'):=fun W hW=>PX g nn dd W hW z1 z2;replace af:Hid (CB n l k hlt<->((0<=co/\co<n)/\(0<=ho/\ho<n)/\co≠ho/\unitsN (g,nn,dd)≠0)/\(0<k->Rise (l[k-1]'(by omega)) (co,ho,g,nn,dd))/\sumU (l.take (k+1)) co<=6000):=af;replace ag:Hid (0<=co->((0<k->Rise (l[k-1]'(by omega)) (co,ho,g,nn,dd))<->(Ed l k<co\/(Ed l k=co/\EP l k<ho)))):=ag;replace ao:Hid (∀c,sumU (l.take (k+1)) c=sumU (l.take k) c+if co=c then unitsN (g,nn,dd) else 0):=ao;replace aw:Hid (Ed l (k+1)=co/\EP l (k+1)=ho):=aw;have aj:Hid (sumU (l.take (k+1)) co=sumU (l.take k) co+unitsN (g,nn,dd)):=by have h:=ao.o co;rwa [zF rfl]at h
   obtain⟨p,hp⟩:∃p,p=unitsN (g,nn,dd):=⟨_,rfl⟩;rw[<-hp]at aN ku af ao aj;obtain⟨sk,am⟩:∃s,s=sumU (l.take k) co:=⟨_,rfl⟩;rw[<-am]at a5 aj;obtain⟨lc,aK⟩:∃s,s=Ed l k:=⟨_,rfl⟩;obtain⟨lh,aL⟩:∃s,s=EP l k:=⟨_,rfl⟩;rw[<-aK,<-aL]at hL ag;replace hp:=zh hp;replace hx:=zh hx;replace am:=zh am;replace aK:=zh aK;replace aL:=zh aL;have i0:(0:Int)<=(k:Int):=by omega
   have i5:(k:Int)<(l.length:Int):=by omega
   clear hc a6 hI hl hz hi;have aq:Hid (Bk (wr.alloc (.cells #[.int .i64 co,.int .i64 ho,.bool g,.string nn,.string dd] 106)) wr.heap.size 106 [.int .i64 co,.int .i64 ho,.bool g,.string nn,.string dd]):=Bk.new wr _ _;have ae:=zh (hB.o.alloc hB.o.size (.cells #[.int .i64 co,.int .i64 ho,.bool g,.string nn,.string dd] 106));have hL1:=zh (hL.o.alloc (.cells #[.int .i64 co,.int .i64 ho,.bool g,.string nn,.string dd] 106));obtain⟨mc,f,aW,br,hf⟩:=hM.o;have aH:=zh (aW.alloc (.cells #[.int .i64 co,.int .i64 ho,.bool g,.string nn,.string dd] 106));replace hf:=zh hf;clear aW
   go_wp2_with fail
   obtain⟨W1,aX⟩:∃W,W=wr.alloc (.cells #[.int .i64 co,.int .i64 ho,.bool g,.string nn,.string dd] 106):=⟨_,rfl⟩;rw[<-aX]at aq ae hL1 aH ⊢;have bn:w.heap.size+1<wr.heap.size:=hL.o.lt;obtain⟨xb,a8⟩:∃b,b=wr.heap.size:=⟨_,rfl⟩;rw[<-a8]at aq bn ⊢;clear aX a8 hL hB hM e1 e2 e3 e4 e5 bh
   have HO:Hid (∀W,Below W1.heap.size W1 W->W.cell? ⟨xb,0,none⟩=some (.int .i64 co)/\W.cell? ⟨xb,1,none⟩=some (.int .i64 ho)/\W.cell? ⟨xb,2,none⟩=some (.bool g)/\W.cell? ⟨xb,3,none⟩=some (.string nn)/\W.cell? ⟨xb,4,none⟩=some (.string dd)):=fun W h=>
    have h:=aq.o.below h
    ⟨h.c0,h.c1,h.c2,h.c3,h.c4⟩
   have aG:Hid (Below W1.heap.size W1 W1):=zI _ _;have aF:Hid (Below W1.heap.size W1 (W1.alloc (.cells #[.int .i64 0,.int .i64 0] 69))):=(zI _ _).alloc (zB _) _;have ar:Hid (Below W1.heap.size W1 (W1.alloc (.cells #[.int .i64 0,.int .i64 0] 69)).drew):=aF.o.drew;have au:Hid (Below W1.heap.size W1 W1.drew):=aG.o.drew;have aS:Hid (Env W1.drew):=hE.o.below (ae.o.trans (au.o.mono ae.o.size));have aR:Hid (Env (W1.alloc (.cells #[.int .i64 0,.int .i64 0] 69)).drew):=hE.o.below (ae.o.trans (ar.o.mono ae.o.size));have a9:Hid (Bk (W1.alloc (.cells #[.int .i64 0,.int .i64 0] 69)).drew W1.heap.size 69 [.int .i64 0,.int .i64 0]):=Bk.new W1 69 _;have bm:=aq.o.lt
   go_region_held3 (fun w'=>w'.cell? ⟨xb,0,none⟩=some (.int .i64 co)/\w'.cell? ⟨xb,1,none⟩=some (.int .i64 ho)/\w'.cell? ⟨xb,2,none⟩=some (.bool g)/\w'.cell? ⟨xb,3,none⟩=some (.string nn)/\w'.cell? ⟨xb,4,none⟩=some (.string dd)) (first|(with_reducible exact HO.o _ aG.o)|(with_reducible exact HO.o _ au.o)|(with_reducible exact HO.o _ ar.o)|(with_reducible exact HO.o _ aF.o)|(with_reducible exact HO.o _ aa.o)|(with_reducible exact HO.o _ (aa.o.alloc aa.o.size _))|(with_reducible exact HO.o _ ((aa.o.setCell (zB _) _).setCell (zB _) _))|go_keep)
    (first
      |(go_at_call 72;refine(ku.o _ ?_).mono ?_;(with_reducible exact aR.o);rintro e w2 ⟨rfl,ap⟩;have ak:=zh (a9.o.below ap);have aa:=ar.t ap;have y1:=ak.o.c0;have y2:=ak.o.c1;have y3:=ak.o.frozen 0;have y4:=ak.o.frozen 1;have y5:=ak.o.lt;clear ap)
      |(go_at_call 72;refine(ku.o _ ?_).mono ?_;(with_reducible exact aS.o);rintro e w2 ⟨rfl,ap⟩;have aa:=au.t ap;clear ap))
   all_goals (
    first
     |(obtain⟨kb,ah⟩:∃b,b=w2.heap.size:=⟨_,rfl⟩;obtain⟨w5,ai⟩:∃W,W=w2.alloc (.cells #[.int .i64 co,.int .i64 ho] 69):=⟨_,rfl⟩;rw[<-ai,<-ah];have ay:Hid (Bk w5 kb 69 [.int .i64 co,.int .i64 ho]):=(by rw[ai,ah];exact Bk.new w2 _ _);have an:Hid (Below W1.heap.size W1 w5):=(by rw[ai];exact aa.o.alloc aa.o.size _);have aZ:W1.heap.size<=kb:=(by rw[ah];exact aa.o.size))
     |(obtain⟨kb,ah⟩:∃b,b=W1.heap.size:=⟨_,rfl⟩;obtain⟨w5,ai⟩:∃W,W=(w2.setCell ⟨W1.heap.size,0,none⟩ (.int .i64 co)).setCell ⟨W1.heap.size,1,none⟩ (.int .i64 ho):=⟨_,rfl⟩;rw[<-ai,<-ah];have ay:Hid (Bk w5 kb 69 [.int .i64 co,.int .i64 ho]):=(by rw[ai,ah];exact(ak.o.set 0 _).set 1 _);have an:Hid (Below W1.heap.size W1 w5):=(by rw[ai];exact(aa.o.setCell (zB _) _).setCell (zB _) _);have aZ:W1.heap.size<=kb:=(by rw[ah];exact zB _);clear ak y1 y2 y3 y4 y5)
    clear ai ah aa au ar aF a9 aS aR aG;have aO:=zh (aq.o.below an.o);have aU:=zh (hL1.o.below an.o);have aI:=zh (aH.o.below an.o);have aD:=zh (ae.o.trans (an.o.mono ae.o.size));have bq:xb<kb:=by omega
    clear HO aq hL1 aH ae an bm aZ;have aB:=EB underlying3 i1 i2;have aA:=aI.o.look FO underlying132 (Iv _) aB;rw[hf.o co,<-am.o]at aA;obtain⟨w6,a4,aJ,ax⟩:=aI.o.put GF FO underlying132 (by unfold maxLen;omega) aB (.int .i64 ((sk:Int)+(p:Int)));have u1:=aO.o.c0;have u2:=ay.o.c0;have u3:=ay.o.c1;have s0:(0:Int)<=(sk:Int)+(p:Int):=by omega
    go_upto_region 7 with(fail)
    have a7:some xb≠some w.heap.size:=fun e=>by have:=Option.some.inj e;omega
    have a1:some kb≠some w.heap.size:=fun e=>by have:=Option.some.inj e;omega
    have a2:some (w.heap.size+1)≠some w.heap.size:=fun e=>by have:=Option.some.inj e;omega
    have bk:=zh (aO.o.grown ax a7);have az:=zh (ay.o.grown ax a1);have ad:=zh (aU.o.grown ax a2);have aE:Hid (Below w.heap.size w w6):=aD.o.grown ax aD.o.size (fun b e=>by cases e;exact zB _);have d:=aJ.look FO underlying132 (Iv _) aB;rw[Be]at d;replace d:(Instr.lookup 132 (.map (some w.heap.size)) (.int .i64 co) false).run prog w6=.ok (.int .i64 ((sk:Int)+(p:Int))) w6:=d
    have bf:Hid (Vm w6 w.heap.size l (k+1)):=by
     refine⟨_,_,aJ,by split<;>omega,fun y=>?_⟩
     by_cases e:y=co
     .rw[e,Be,aj.o];rfl
     rw[Bh e,hf.o y,ao.o y,zE fun c=>e c.symm,xM]
    have n1:=(aE.o.cell (p:=⟨nb,0,none⟩) bj).trans aC.o;have a0:Hid (w.heap.size+1≠kb):=fun e=>by omega
    clear a4 aA aB aO ay aU aI aD aJ ax u1 u2 u3 a7 a1 a2 hf;have u1:=bk.o.c0;have u2:=az.o.c0;have u3:=az.o.c1;have u4:=ad.o.c0;have u5:=ad.o.c1;have u6:=ad.o.frozen 0;have u7:=ad.o.frozen 1;have u8:=ad.o.lt;have u9:=az.o.lt;clear u6 u7;obtain⟨r,hr⟩:∃r:Bool,r=decide (lc<co\/(lc=co/\lh<ho)):=⟨_,rfl⟩;obtain⟨q,hq⟩:∃q:Bool,q=decide (co<0\/(n:Int)<=co\/ho<0\/(n:Int)<=ho\/co=ho\/r=false\/p=0\/6000<sk+p):=⟨_,rfl⟩;have al:(Instr.lookup 132 (.map (some w.heap.size)) (.int .i64 co) false).run prog w6=.ok (.int .i64 ((sk+p:Nat):Int)) w6:=d;replace hr:=zh hr;replace hq:=zh hq;clear d;refine Ye kb (w.heap.size+1) co ho lc lh r hr.o w6 u2 u3 u4 u5 ?_;intro u33 u34 u35 u36 u37 u38 u39 u40 u41 u42 u43 u44 u45 u46 u47 u48 u49 u50 u51
    go_upto_region 8 with(fail)
    refine Yf xb kb nb w.heap.size n p (sk+p) co ho r q hq.o w6 aN (by omega) hn u1 u2 u3 n1 al ?_;intro bs bt bu bv bw bx bz bA bB bC bD bE bF bG bH bI bJ bK bL bM bN bO bP bQ bR bS bT bU bW bX bY bZ b0 b1 b2 b3 b4 b5 b6 b7 b8;clear u1 u2 u3 u4 u5 n1 al s0 aN a5 i0 i5
    cases q with
    |true=>
     have HG:Hid (EM n l=false):=av.o fun h=>by
      have h2:=af.o.1 h;have h3:=hq.o;have h4:=zL h3.symm;have h5:=h2.2.2;rw[aj.o]at h5;have h6:=(ag.o h2.1.1.1).1 h2.2.1;have h7:r=true:=by rw[hr.o];exact zG h6
      rw[h7]at h4;obtain⟨⟨d1,d2⟩,⟨d3,d4⟩,d5,d6⟩:=h2.1
      rcases h4 with c|c|c|c|c|c|c|c
      .omega
      .omega
      .omega
      .omega
      .exact d5 c
      .cases c
      .exact d6 c
      omega
     clear hq hr af ag aj av;go_wp2;go_ret;exact⟨Ad HG.o.symm,aE.o⟩
    |false=>
     have aM:Hid (¬(co<0\/(n:Int)<=co\/ho<0\/(n:Int)<=ho\/co=ho\/r=false\/p=0\/6000<sk+p)):=yA hq.o.symm
     have a3:Hid (lc<co\/(lc=co/\lh<ho)):=by
      have h:=hr.o
      have h1:r=true:=by
       cases r
       .exact absurd (.inr (.inr (.inr (.inr (.inr (.inl rfl)))))) aM.o
       rfl
      rw[h1]at h;have h9:lc<co\/(lc=co/\lh<ho):=zL h.symm;exact h9
     have HN:Hid (∀i (h:i<l.length),i<k+1->CB n l i h):=aP.o (af.o.2 (by
      have h:=aM.o;refine⟨⟨⟨by omega,by omega⟩,⟨by omega,by omega⟩,fun c=>h (.inr (.inr (.inr (.inr (.inl c))))),by omega⟩,(ag.o (by omega)).2 a3.o,by rw[aj.o];omega⟩))
     have be:Hid (Bk ((w6.setCell ⟨w.heap.size+1,0,none⟩ (.int .i64 co)).setCell ⟨w.heap.size+1,1,none⟩ (.int .i64 ho)) (w.heap.size+1) 69 [.int .i64 (Ed l (k+1)),.int .i64 (EP l (k+1))]):=by rw[aw.o.1,aw.o.2];exact(ad.o.set 0 _).set 1 _
     have bb:Hid (Below w.heap.size w ((w6.setCell ⟨w.heap.size+1,0,none⟩ (.int .i64 co)).setCell ⟨w.heap.size+1,1,none⟩ (.int .i64 ho))):=(aE.o.setCell (p:=⟨w.heap.size+1,0,none⟩) (wD _) _).setCell (p:=⟨w.heap.size+1,1,none⟩) (wD _) _
     have bg:Hid (Vm ((w6.setCell ⟨w.heap.size+1,0,none⟩ (.int .i64 co)).setCell ⟨w.heap.size+1,1,none⟩ (.int .i64 ho)) w.heap.size l (k+1)):=by
      obtain⟨c,f,h1,h2⟩:=bf.o;exact⟨c,f,(h1.set (a:=⟨w.heap.size+1,0,none⟩) (xK (zw _)) _).set (a:=⟨w.heap.size+1,1,none⟩) (xK (zw _)) _,h2⟩
     clear hq hr af ag aj av aM a3 aP;have u2:=az.o.c0;have u3:=az.o.c1;have u4:=ad.o.c0;have u5:=ad.o.c1;have u6:=ad.o.frozen 0;have u7:=ad.o.frozen 1;have bp:=a0.o;go_wp2
     go_roundw
     case rel=>exact⟨k+1,by omega,by go_num,bb,bg,be,HN⟩
     case measure=>simp[intOf];omega)
  obtain rfl:k=l.length:=by omega
  have HG:=zh (bc.o fun i h=>hA.o i h h);go_wp2;go_ret;exact⟨Ad HG.o.symm,hB.o⟩
end Ci
end
end Go.Proofs.YtefmpngjjmddjaaGreatDoor

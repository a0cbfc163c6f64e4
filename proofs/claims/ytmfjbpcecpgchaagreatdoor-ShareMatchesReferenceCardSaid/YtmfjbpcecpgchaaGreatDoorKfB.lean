/- Parts of the proof. -/
import Derived.Test.YtmfjbpcecpgchaaGreatDoorCards
import Derived.Test.YtmfjbpcecpgchaaGreatDoorTie
import Derived.Deep.DeepWitnessRowRef
import Derived.Deep.DeepLaidRun
import Derived.Stop.LaidErr
import Derived.LaidMore
import Derived.WalkLawsBesides
import Derived.WalkSpells
import Derived.StillTailTactics
import Derived.DataShut
import Derived.Test.YtmfjbpcecpgchaaGreatDoorKfA
set_option maxHeartbeats 16000000
set_option maxRecDepth 1000000
open Go.Proofs.Tryz
namespace Go.Proofs.YtmfjbpcecpgchaaGreatDoor
section
open Go.RowKit Go.Shelf
namespace Nt
def val(s:ByteArray):Nat:=A0 s.data.toList
theorem Bu(n:Nat):val (num n)=n:=Aw n
theorem OC{s:ByteArray}(h:isN s=true):num (val s)=s:=by
 obtain⟨n,_,rfl⟩:=BT h;rw[Bu]
theorem BK{s:ByteArray}(h:isN s=true):val s<Lim:=by
 obtain⟨n,hn,rfl⟩:=BT h;rw[Bu];exact hn
theorem FL{s:ByteArray}(h:isN s=true):∀c∈s.data.toList,AT c:=((Ec _).1 h).2.2.1
theorem Bj{s:ByteArray}(h:isN s=true):s.size<=300:=by
 have:=((Ec _).1 h).2.1
 simpa using this
theorem Vg(a b:Nat)(h:a+a<=9*b):10^a*10^a<=1000000000^b:=by
 have e:(1000000000:Nat)=10^9:=rfl;rw[<-xf,e,<-Nat.pow_mul];exact zW (by omega) h
theorem Idq:Lim*Lim<=1000000000^67:=by
 unfold Lim;exact Vg mxd 67 (by rw[Dk];omega)
theorem DQ{n:Nat}(h:n<1000000000^67*1000000000):Cd n:=by
 have:1000000000^67*1000000000<=1000000000^200:=by
  rw[<-zy];exact zW (by omega) (by omega)
 exact zL h this
theorem JX:Lim<=Lim*Lim:=Nat.le_mul_of_pos_left _ (wh (by omega))
theorem BL{n:Nat}(h:n<Lim):Cd n:=DQ (by have:=Idq;have:=JX;omega)
theorem ME{n:Nat}(h:n<Lim):Cd (n*1000000000):=DQ (by have:=Idq;have:=JX;omega)
theorem Pw{n m:Nat}(h:n<Lim)(k:m<Lim):Cd (n+m):=DQ (by have:=Idq;have:=JX;omega)
theorem Px{n m:Nat}(h:n<Lim)(k:m<Lim):Cd (n*m):=DQ (by
 have:=Idq;have h1:n*m<=Lim*Lim:=xk (by omega) (by omega);omega)
def EQ(k:Nat):ByteArray:=if k<Lim then num k else ⟨#[]⟩
def ER(k:Nat):Int:=if k<Lim then 0 else 2
theorem CQ(k:Nat):Dp (Lib.decDigits k)=.tuple #[.string (EQ k),.int .i64 (ER k)]:=by
 have h:300<(Lib.decDigits k).length<->¬k<Lim:=by
  have e:(Lib.decDigits k).length<=300<->k<Lim:=by
   have:=Bm k mxd (by rw[Dk];omega);rw[<-Dk];exact this
  omega
 unfold Dp EQ ER
 by_cases hk:k<Lim
 .rw[zC (by rw[h];exact fun c=>c hk),zE hk,zE hk];rfl
 rw[zE (h.2 hk),zC hk,zC hk]
def opS(k:Nat)(s t:ByteArray):ByteArray:=if isN s=true/\isN t=true then EQ k else ⟨#[]⟩
def opE(k:Nat)(s t:ByteArray):Int:=if isN s=true/\isN t=true then ER k else 1
def CR(k:Nat)(s t:ByteArray)(w:World)(e:Ending)(w':World):Prop:=e=.returned (.tuple #[.string (opS k s t),.int .i64 (opE k s t)])/\Below w.heap.size w w'
theorem JY{k:Nat}{s t:ByteArray}(h:isN s=false\/isN t=false):opS k s t=⟨#[]⟩/\opE k s t=1:=by
 have:¬(isN s=true/\isN t=true):=by rintro⟨h1,h2⟩;rcases h with h|h<;>simp_all
 unfold opS opE;rw[zC this,zC this];exact⟨rfl,rfl⟩
theorem Fp{k:Nat}{s t:ByteArray}(h1:isN s=true)(h2:isN t=true):opS k s t=EQ k/\opE k s t=ER k:=by
 unfold opS opE;rw[zE ⟨h1,h2⟩,zE ⟨h1,h2⟩];exact⟨rfl,rfl⟩
theorem BD(s:ByteArray)(w:World)(h:isN s=true):Calls prog 114 #[.string s] w (CG w.heap.size w (val s)) :=
 Pu s w (by have:=Bj h;omega) (FL h)
theorem Vh{n m:Nat}(hn:n<Lim)(hm:m<Lim):Nat.gcd n m<Lim:=by
 rcases yj n with h|h
 .rw[h,v4];exact hm
 exact yM (Nat.gcd_le_left m h) hn
theorem MF{n m:Nat}(h:n<Lim)(k:m<Lim):Cd ((n+m)*1000000000):=by
 have:1000000000^68*1000000000<=1000000000^200:=by
  rw[<-zy];exact zW (by omega) (by omega)
 have h1:=Idq;have h2:=JX;have h3:1000000000^68=1000000000^67*1000000000:=zy ..;unfold Cd;omega
theorem Py(s t:ByteArray)(w:World)(hE:Env w)(hs:isN s=true)(ht:isN t=true):
 Calls prog 112 #[.string s,.string t,.func (.func 159) #[] #[]] w (CR (val s+val t) s t w):=by
 have an:=Bj hs;have ao:=Bj ht;have am:=zh hE;have HG:=zh (Fp (k:=val s+val t) hs ht);have c1:=BG s w (by omega);rw[hs]at c1;have HS:=zh hs;have HT:=zh ht;clear hs ht;have hs:=HS.o;have ht:=HT.o;replace hs:=zh hs;replace ht:=zh ht;replace hE:=zh hE;go_enter func112,ntmps112
 go_wp2_with fail
 refine c1.q fun w1 ah=>?_;have ab:=zh ah;clear ah
 go_wp2_with fail
 have c2:=BG t w1 (by omega);rw[ht.o]at c2;refine c2.q fun w2 d=>?_;have a:=ab.t d;clear d c1 c2 ab
 go_wp2_with fail
 refine(BD s w2 hs.o).mono ?_;rintro e w3 ⟨v1,rfl,ae,_,aa⟩;have ad:=a.t aa;replace ae:=zh ae;clear aa a
 go_wp2_with fail
 refine(BD t w3 ht.o).mono ?_;rintro e w4 ⟨v2,rfl,af,_,d⟩;have a:=ad.t d;replace d:=zh d;replace af:=zh af;clear ad
 go_wp2_with fail
 have ak:=hs.o;have al:=ht.o;refine(TB _ v1 v2 (val s) (val t) (ae.o.below d.o) af.o (BL (BK hs.o)) (BL (BK ht.o))).mono ?_;rintro e w5 ⟨v3,rfl,ag,_,aa⟩;have h:=a.t aa;replace ag:=zh ag;clear aa a d ae af ak al
 go_wp2_with fail
 have ct:=Ed w5 v3 _ ag.o (Pw (BK hs.o) (BK ht.o)) (hE.o.below h.o);refine ct.q fun w6 ai=>?_;rw[CQ];have aj:=h.t ai;clear ct ai h ag;go_wp2;go_ret2;exact⟨by rw[HG.o.1,HG.o.2];rfl,aj.o⟩
theorem Pz(s t:ByteArray)(w:World)(hE:Env w)(hs:isN s=true)(ht:isN t=true)(ak:val t<=val s):
 Calls prog 112 #[.string s,.string t,.func (.func 153) #[] #[]] w (CR (val s-val t) s t w):=by
 have ao:=Bj hs;have aq:=Bj ht;have an:=zh hE;have HG:=zh (Fp (k:=val s-val t) hs ht);have c1:=BG s w (by omega);rw[hs]at c1;have HS:=zh hs;have HT:=zh ht;clear hs ht;have hs:=HS.o;have ht:=HT.o;replace hs:=zh hs;replace ht:=zh ht;replace hE:=zh hE;go_enter func112,ntmps112
 go_wp2_with fail
 refine c1.q fun w1 ah=>?_;have ab:=zh ah;clear ah
 go_wp2_with fail
 have c2:=BG t w1 (by omega);rw[ht.o]at c2;refine c2.q fun w2 d=>?_;have a:=ab.t d;clear d c1 c2 ab
 go_wp2_with fail
 refine(BD s w2 hs.o).mono ?_;rintro e w3 ⟨v1,rfl,ae,_,aa⟩;have ad:=a.t aa;replace ae:=zh ae;clear aa a
 go_wp2_with fail
 refine(BD t w3 ht.o).mono ?_;rintro e w4 ⟨v2,rfl,af,_,d⟩;have a:=ad.t d;replace d:=zh d;replace af:=zh af;clear ad
 go_wp2_with fail
 have al:=hs.o;have am:=ht.o;refine(O8 _ v1 v2 (val s) (val t) (ae.o.below d.o) af.o ak (BL (BK hs.o))).mono ?_;rintro e w5 ⟨v3,rfl,ag,_,aa⟩;have h:=a.t aa;replace ag:=zh ag;clear aa a d ae af al am
 go_wp2_with fail
 have ct:=Ed w5 v3 _ ag.o (BL (by have:=BK hs.o;omega)) (hE.o.below h.o);refine ct.q fun w6 ai=>?_;rw[CQ];have aj:=h.t ai;clear ct ai h ag;go_wp2;go_ret2;exact⟨by rw[HG.o.1,HG.o.2];rfl,aj.o⟩
theorem P0(s t:ByteArray)(w:World)(hE:Env w)(hs:isN s=true)(ht:isN t=true):
 Calls prog 112 #[.string s,.string t,.func (.func 117) #[] #[]] w (CR (val s*val t) s t w):=by
 have an:=Bj hs;have ao:=Bj ht;have am:=zh hE;have HG:=zh (Fp (k:=val s*val t) hs ht);have c1:=BG s w (by omega);rw[hs]at c1;have HS:=zh hs;have HT:=zh ht;clear hs ht;have hs:=HS.o;have ht:=HT.o;replace hs:=zh hs;replace ht:=zh ht;replace hE:=zh hE;go_enter func112,ntmps112
 go_wp2_with fail
 refine c1.q fun w1 ah=>?_;have ab:=zh ah;clear ah
 go_wp2_with fail
 have c2:=BG t w1 (by omega);rw[ht.o]at c2;refine c2.q fun w2 d=>?_;have a:=ab.t d;clear d c1 c2 ab
 go_wp2_with fail
 refine(BD s w2 hs.o).mono ?_;rintro e w3 ⟨v1,rfl,ae,_,aa⟩;have ad:=a.t aa;replace ae:=zh ae;clear aa a
 go_wp2_with fail
 refine(BD t w3 ht.o).mono ?_;rintro e w4 ⟨v2,rfl,af,_,d⟩;have a:=ad.t d;replace d:=zh d;replace af:=zh af;clear ad
 go_wp2_with fail
 have ak:=hs.o;have al:=ht.o;refine(JW _ v1 v2 (val s) (val t) (ae.o.below d.o) af.o (BL (BK hs.o)) (BL (BK ht.o))).mono ?_;rintro e w5 ⟨v3,rfl,ag,_,aa⟩;have h:=a.t aa;replace ag:=zh ag;clear aa a d ae af ak al
 go_wp2_with fail
 have ct:=Ed w5 v3 _ ag.o (Px (BK hs.o) (BK ht.o)) (hE.o.below h.o);refine ct.q fun w6 ai=>?_;rw[CQ];have aj:=h.t ai;clear ct ai h ag;go_wp2;go_ret2;exact⟨by rw[HG.o.1,HG.o.2];rfl,aj.o⟩
theorem P5(s t:ByteArray)(w:World)(hE:Env w)(hs:isN s=true)(ht:isN t=true):
 Calls prog 112 #[.string s,.string t,.func (.func 113) #[] #[]] w (CR (Nat.gcd (val s) (val t)) s t w):=by
 have an:=Bj hs;have ao:=Bj ht;have am:=zh hE;have HG:=zh (Fp (k:=Nat.gcd (val s) (val t)) hs ht);have c1:=BG s w (by omega);rw[hs]at c1;have HS:=zh hs;have HT:=zh ht;clear hs ht;have hs:=HS.o;have ht:=HT.o;replace hs:=zh hs;replace ht:=zh ht;replace hE:=zh hE;go_enter func112,ntmps112
 go_wp2_with fail
 refine c1.q fun w1 ah=>?_;have ab:=zh ah;clear ah
 go_wp2_with fail
 have c2:=BG t w1 (by omega);rw[ht.o]at c2;refine c2.q fun w2 d=>?_;have a:=ab.t d;clear d c1 c2 ab
 go_wp2_with fail
 refine(BD s w2 hs.o).mono ?_;rintro e w3 ⟨v1,rfl,ae,_,aa⟩;have ad:=a.t aa;replace ae:=zh ae;clear aa a
 go_wp2_with fail
 refine(BD t w3 ht.o).mono ?_;rintro e w4 ⟨v2,rfl,af,_,d⟩;have a:=ad.t d;replace d:=zh d;replace af:=zh af;clear ad
 go_wp2_with fail
 have ak:=hs.o;have al:=ht.o;refine(TC _ v1 v2 (val s) (val t) (val s+val t) (ae.o.below d.o) af.o (Nat.le_add_right _ _) (Nat.le_add_left _ _) (MF (BK hs.o) (BK ht.o)) (by have:=a.o.size;have:=hE.o.pos;omega)).mono ?_;rintro e w5 ⟨⟨v3,rfl,ag⟩,aa⟩;have h:=a.t aa;replace ag:=zh ag;clear aa a d ae af ak al
 go_wp2_with fail
 have ct:=Ed w5 v3 _ ag.o (BL (Vh (BK hs.o) (BK ht.o))) (hE.o.below h.o);refine ct.q fun w6 ai=>?_;rw[CQ];have aj:=h.t ai;clear ct ai h ag;go_wp2;go_ret2;exact⟨by rw[HG.o.1,HG.o.2];rfl,aj.o⟩
theorem CS(f:Nat)(k:Nat)(s t:ByteArray)(w:World)(hs:s.size<=140737488355328)(ht:t.size<=140737488355328)(hb:isN s=false\/isN t=false):
 Calls prog 112 #[.string s,.string t,.func (.func f) #[] #[]] w (CR k s t w):=by
 have HG:=zh (JY (k:=k) hb);have c1:=BG s w (by omega)
 cases h1:isN s with
 |false=>
  rw[h1]at c1;clear hb h1;go_enter func112,ntmps112
  go_wp2_with (go_at_call 111;refine c1.q fun w1 a=>?_)
  go_ret2;exact⟨by rw[HG.o.1,HG.o.2];rfl,a⟩
 |true=>
  have h2:isN t=false:=by rcases hb with h|h;(· rw[h1]at h;cases h);(· exact h)
  rw[h1]at c1;have H2:=zh h2;clear hb h1 h2;go_enter func112,ntmps112
  go_wp2_with fail
  refine c1.q fun w1 a=>?_;replace a:=zh a
  go_wp2_with fail
  have c2:=BG t w1 (by omega);rw[H2.o]at c2;refine c2.q fun w2 d=>?_;replace d:=zh d;go_wp2;go_ret2;exact⟨by rw[HG.o.1,HG.o.2];rfl,a.o.trans (d.o.mono a.o.size)⟩
theorem TD(s t:ByteArray)(w:World)(hE:Env w)(hs:s.size<=140737488355328)(ht:t.size<=140737488355328):
 Calls prog 120 #[.string s,.string t] w (CR (val s+val t) s t w):=by
 have hc:Calls prog 112 #[.string s,.string t,.func (.func 159) #[] #[]] w (CR (val s+val t) s t w):=by
  cases h1:isN s with
  |false=>exact CS _ _ s t w hs ht (.inl h1)
  |true=>
   cases h2:isN t with
   |false=>exact CS _ _ s t w hs ht (.inr h2)
   |true=>exact Py s t w hE h1 h2
 go_enter func120,ntmps120
 go_wp2_with (go_at_call 112;refine hc.q fun w1 a=>?_)
 go_ret2;exact⟨rfl,a⟩
theorem TE(s t:ByteArray)(w:World)(hE:Env w)(hs:s.size<=140737488355328)(ht:t.size<=140737488355328):
 Calls prog 69 #[.string s,.string t] w (CR (val s*val t) s t w):=by
 have hc:Calls prog 112 #[.string s,.string t,.func (.func 117) #[] #[]] w (CR (val s*val t) s t w):=by
  cases h1:isN s with
  |false=>exact CS _ _ s t w hs ht (.inl h1)
  |true=>
   cases h2:isN t with
   |false=>exact CS _ _ s t w hs ht (.inr h2)
   |true=>exact P0 s t w hE h1 h2
 go_enter func69,ntmps69
 go_wp2_with (go_at_call 112;refine hc.q fun w1 a=>?_)
 go_ret2;exact⟨rfl,a⟩
theorem TF(s t:ByteArray)(w:World)(hE:Env w)(hs:s.size<=140737488355328)(ht:t.size<=140737488355328):
 Calls prog 67 #[.string s,.string t] w (CR (Nat.gcd (val s) (val t)) s t w):=by
 have hc:Calls prog 112 #[.string s,.string t,.func (.func 113) #[] #[]] w (CR (Nat.gcd (val s) (val t)) s t w):=by
  cases h1:isN s with
  |false=>exact CS _ _ s t w hs ht (.inl h1)
  |true=>
   cases h2:isN t with
   |false=>exact CS _ _ s t w hs ht (.inr h2)
   |true=>exact P5 s t w hE h1 h2
 go_enter func67,ntmps67
 go_wp2_with (go_at_call 112;refine hc.q fun w1 a=>?_)
 go_ret2;exact⟨rfl,a⟩
def Gb(s t:ByteArray):Int:=if isN s=true/\isN t=true then B0 (val s) (val t) else 0
def Gc(s t:ByteArray):Int:=if isN s=true/\isN t=true then 0 else 1
theorem GR(s t:ByteArray)(w:World)(hE:Env w)(hs:s.size<=140737488355328)(ht:t.size<=140737488355328):
 Calls prog 121 #[.string s,.string t] w fun e w'=>e=.returned (.tuple #[.int .i64 (Gb s t),.int .i64 (Gc s t)])/\Below w.heap.size w w':=by
 have c1:=BG s w (by omega);replace hE:=zh hE
 cases h1:isN s with
 |false=>
  have HG:Hid (Gb s t=0/\Gc s t=1):=by unfold Hid Gb Gc;simp[h1]
  rw[h1]at c1;clear h1;go_enter func121,ntmps121
  go_wp2_with (go_at_call 111;refine c1.q fun w1 h=>?_)
  go_ret2;exact⟨by rw[HG.o.1,HG.o.2];rfl,h⟩
 |true=>
  cases h2:isN t with
  |false=>
   have HG:Hid (Gb s t=0/\Gc s t=1):=by unfold Hid Gb Gc;simp[h2]
   rw[h1]at c1;have H2:=zh h2;clear h1 h2;go_enter func121,ntmps121
   go_wp2_with fail
   refine c1.q fun w1 h=>?_;replace h:=zh h
   go_wp2_with fail
   have c2:=BG t w1 (by omega);rw[H2.o]at c2;refine c2.q fun w2 d=>?_;replace d:=zh d;go_wp2;go_ret2;exact⟨by rw[HG.o.1,HG.o.2];rfl,h.o.trans (d.o.mono h.o.size)⟩
  |true=>
   have HG:Hid (Gb s t=B0 (val s) (val t)/\Gc s t=0):=by unfold Hid Gb Gc;simp[h1,h2]
   rw[h1]at c1;have H1:=zh h1;have H2:=zh h2;clear h1 h2;go_enter func121,ntmps121
   go_wp2_with fail
   refine c1.q fun w1 h=>?_;have aa:=zh h;clear h
   go_wp2_with fail
   have c2:=BG t w1 (by omega);rw[H2.o]at c2;refine c2.q fun w2 d=>?_;have a:=aa.t d;clear d c1 c2 aa
   go_wp2_with fail
   refine(BD s w2 H1.o).mono ?_;rintro e w3 ⟨v1,rfl,ad,_,af⟩;have ab:=a.t af;replace ad:=zh ad;clear af a
   go_wp2_with fail
   refine(BD t w3 H2.o).mono ?_;rintro e w4 ⟨v2,rfl,ae,_,d⟩;have a:=ab.t d;replace d:=zh d;replace ae:=zh ae;clear ab
   go_wp2_with fail
   refine(EP w4 v1 v2 (val s) (val t) (ad.o.below d.o) ae.o (BL (BK H1.o)) (by have:=a.o.size;have:=hE.o.pos;omega)).q fun w5 ag=>?_;have ah:=a.t ag;clear ag a d ad ae;go_wp2;go_ret2;exact⟨by rw[HG.o.1,HG.o.2];rfl,ah.o⟩
def IM(s t:ByteArray):ByteArray:=if isN s=true/\isN t=true/\val t<=val s then num (val s-val t) else ⟨#[]⟩
def IN(s t:ByteArray):Int:=if isN s=true/\isN t=true then (if val t<=val s then 0 else 10) else 1
theorem TG(s t:ByteArray)(w:World)(hE:Env w)(hs:s.size<=140737488355328)(ht:t.size<=140737488355328):
 Calls prog 122 #[.string s,.string t] w fun e w'=>e=.returned (.tuple #[.string (IM s t),.int .i64 (IN s t)])/\Below w.heap.size w w':=by
 have cc:=GR s t w hE hs ht
 by_cases hg:isN s=true/\isN t=true
 .have e1:Gb s t=B0 (val s) (val t):=by unfold Gb;rw[zE hg]
  have e2:Gc s t=0:=by unfold Gc;rw[zE hg]
  rw[e1,e2]at cc
  by_cases hle:val t<=val s
  .have HG:Hid (IM s t=EQ (val s-val t)/\IN s t=ER (val s-val t)):=by
    have:=BK hg.1;unfold Hid IM IN EQ ER;rw[zE ⟨hg.1,hg.2,hle⟩,zE hg,zE hle,zE (by omega),zE (by omega)];exact⟨rfl,rfl⟩
   have hc:¬B0 (val s) (val t)<0:=by unfold B0;rw[zC (by omega)];split<;>omega
   have HO:=zh (Fp (k:=val s-val t) hg.1 hg.2);have ha:Hid (∀w1,Env w1->Calls prog 112 #[.string s,.string t,.func (.func 153) #[] #[]] w1 (CR (val s-val t) s t w1)):=fun w1 h=>Pz s t w1 h hg.1 hg.2 hle;replace hE:=zh hE;generalize B0 (val s) (val t)=c at cc hc;clear e1 e2 hg hle;go_enter func122,ntmps122
   go_wp2_with (first
    |(go_at_call 121;refine cc.q fun w1 a=>?_;replace a:=zh a)
    |(go_at_call 112;refine(ha.o _ (by exact hE.o.below a.o)).q fun w2 d=>?_;replace d:=zh d))
   go_ret2;exact⟨by rw[HG.o.1,HG.o.2];exact congrArg Ending.returned (by simp[HO.o.1,HO.o.2]),a.o.trans (d.o.mono a.o.size)⟩
  have HG:Hid (IM s t=⟨#[]⟩/\IN s t=10):=by
   unfold Hid IM IN;rw[zC (fun h=>hle h.2.2),zE hg,zC hle];exact⟨rfl,rfl⟩
  rw[Cy (by omega)]at cc;replace hE:=zh hE;clear e1 e2 hg hle;go_enter func122,ntmps122
  go_wp2_with (go_at_call 121;refine cc.q fun w1 a=>?_;replace a:=zh a)
  go_ret2;exact⟨by rw[HG.o.1,HG.o.2];rfl,a.o⟩
 have e1:Gb s t=0:=by unfold Gb;rw[zC hg]
 have e2:Gc s t=1:=by unfold Gc;rw[zC hg]
 rw[e1,e2]at cc
 have aa:isN s=false\/isN t=false:=by
  cases h1:isN s with
  |false=>exact .inl rfl
  |true=>right;cases h2:isN t with
   |false=>rfl
   |true=>exact absurd ⟨h1,h2⟩ hg
 have HG:Hid (IM s t=⟨#[]⟩/\IN s t=1):=by
  unfold Hid IM IN;rw[zC (fun h=>hg ⟨h.1,h.2.1⟩),zC hg];exact⟨rfl,rfl⟩
 have HO:=zh (JY (k:=0) aa);have ha:Hid (∀w1,Calls prog 112 #[.string s,.string t,.func (.func 153) #[] #[]] w1 (CR 0 s t w1)):=fun w1=>CS _ _ s t w1 hs ht aa;replace hE:=zh hE;clear e1 e2 hg aa;go_enter func122,ntmps122
 go_wp2_with (first
  |(go_at_call 121;refine cc.q fun w1 a=>?_;replace a:=zh a)
  |(go_at_call 112;refine(ha.o _).q fun w2 d=>?_;replace d:=zh d))
 go_ret2;exact⟨by rw[HG.o.1,HG.o.2];exact congrArg Ending.returned (by simp[HO.o.1,HO.o.2]),a.o.trans (d.o.mono a.o.size)⟩
def Hn(s t:ByteArray):ByteArray:=if isN s=true/\isN t=true/\val t≠0 then num (val s/val t) else ⟨#[]⟩
def Ho(s t:ByteArray):ByteArray:=if isN s=true/\isN t=true/\val t≠0 then num (val s%val t) else ⟨#[]⟩
def Hp(s t:ByteArray):Int:=if isN s=true/\isN t=true then (if val t=0 then 15 else 0) else 1
def TH(s t:ByteArray)(w:World)(e:Ending)(w':World):Prop:=e=.returned (.tuple #[.string (Hn s t),.string (Ho s t),.int .i64 (Hp s t)])/\Below w.heap.size w w'
theorem KX{t:ByteArray}(h:isN t=true):t.toList=[48]<->val t=0:=by
 obtain⟨n,_,rfl⟩:=BT h;rw[Bu,yP];constructor
 .intro e;have h:=Bu n;unfold val at h;rw[e]at h;rw[<-h];rfl
 intro e;subst e
 show Lib.decDigits 0=[48]
 rw[wZ (by omega)];rfl
theorem TI(s t:ByteArray)(w:World)(hE:Env w)(hs:s.size<=140737488355328)(ht:t.size<=140737488355328):
 Calls prog 68 #[.string s,.string t] w (TH s t w):=by
 have c1:=BG s w (by omega);replace hE:=zh hE
 cases h1:isN s with
 |false=>
  have HG:Hid (Hn s t=⟨#[]⟩/\Ho s t=⟨#[]⟩/\Hp s t=1):=by unfold Hid Hn Ho Hp;simp[h1]
  rw[h1]at c1;clear h1;go_enter func68,ntmps68
  go_wp2_with (go_at_call 111;refine c1.q fun w1 d=>?_)
  go_ret3
  exact⟨by rw[HG.o.1,HG.o.2.1,HG.o.2.2];rfl,d⟩
 |true=>
  cases h2:isN t with
  |false=>
   have HG:Hid (Hn s t=⟨#[]⟩/\Ho s t=⟨#[]⟩/\Hp s t=1):=by unfold Hid Hn Ho Hp;simp[h2]
   rw[h1]at c1;have H2:=zh h2;clear h1 h2;go_enter func68,ntmps68
   go_wp2_with fail
   refine c1.q fun w1 d=>?_;replace d:=zh d
   go_wp2_with fail
   have c2:=BG t w1 (by omega);rw[H2.o]at c2;refine c2.q fun w2 a=>?_;replace a:=zh a;go_wp2
   go_ret3
   exact⟨by rw[HG.o.1,HG.o.2.1,HG.o.2.2];rfl,d.o.trans (a.o.mono d.o.size)⟩
  |true=>
   rw[h1]at c1;have H1:=zh h1;have H2:=zh h2
   by_cases hz:val t=0
   .have HG:Hid (Hn s t=⟨#[]⟩/\Ho s t=⟨#[]⟩/\Hp s t=15):=by unfold Hid Hn Ho Hp;simp[h1,h2,hz]
    have hb:(t.toList==[48])=true:=by rw[yL];exact(KX h2).2 hz
    clear h1 h2 hz;go_enter func68,ntmps68
    go_wp2_with fail
    refine c1.q fun w1 d=>?_;replace d:=zh d
    go_wp2_with fail
    have c2:=BG t w1 (by omega);rw[H2.o]at c2;refine c2.q fun w2 a=>?_;replace a:=zh a;go_wp2
    go_ret3
    exact⟨by rw[HG.o.1,HG.o.2.1,HG.o.2.2];rfl,d.o.trans (a.o.mono d.o.size)⟩
   have hq:val s/val t<Lim:=yM (vJ _ _) (BK h1);have hr:val s%val t<Lim:=yM (Nat.mod_le _ _) (BK h1);have HG:Hid (Hn s t=num (val s/val t)/\Ho s t=num (val s%val t)/\Hp s t=0):=by unfold Hid Hn Ho Hp;simp[h1,h2,hz]
   have HL:Hid (Dp (Lib.decDigits (val s/val t))=.tuple #[.string (num (val s/val t)),.int .i64 0]/\Dp (Lib.decDigits (val s%val t))=.tuple #[.string (num (val s%val t)),.int .i64 0]):=by
    unfold Hid;rw[CQ,CQ];unfold EQ ER;rw[zE hq,zE hr,zE hq,zE hr];exact⟨rfl,rfl⟩
   have hb:(t.toList==[48])=false:=by rw[zJ];exact fun h=>hz ((KX h2).1 h)
   replace hz:=zh hz;replace hq:=zh hq;replace hr:=zh hr;clear h1 h2;go_enter func68,ntmps68
   go_wp2_with fail
   refine c1.q fun w1 d=>?_;have af:=zh d;clear d
   go_wp2_with fail
   have c2:=BG t w1 (by omega);rw[H2.o]at c2;refine c2.q fun w2 a=>?_;have aa:=af.t a;clear a c1 c2 af
   go_wp2_with fail
   refine(BD s w2 H1.o).mono ?_;rintro e w3 ⟨v1,rfl,ah,_,al⟩;have ag:=aa.t al;replace ah:=zh ah;clear al aa
   go_wp2_with fail
   refine(BD t w3 H2.o).mono ?_;rintro e w4 ⟨v2,rfl,ai,_,a⟩;have aa:=ag.t a;replace a:=zh a;replace ai:=zh ai;clear ag
   go_wp2_with fail
   refine(OB w4 v1 v2 (val s) (val t) (ah.o.below a.o) ai.o (BL (BK H1.o)) (ME (BK H2.o)) (Nat.pos_of_ne_zero hz.o) (by have:=aa.o.size;have:=hE.o.pos;omega)).mono ?_;rintro e w5 ⟨⟨q,r,rfl,aj,ak⟩,am⟩;have ab:=aa.t am;replace aj:=zh aj;replace ak:=zh ak;clear am aa a ah ai
   go_wp2_with fail
   refine(Ed w5 q _ aj.o (BL hq.o) (hE.o.below ab.o)).q fun w6 ae=>?_;rw[HL.o.1];have ad:=ab.t ae;replace ae:=zh ae;clear ab
   go_wp2_with fail
   refine(Ed w6 r _ (ak.o.below ae.o) (BL hr.o) (hE.o.below ad.o)).q fun w7 an=>?_;rw[HL.o.2];have ao:=ad.t an;clear an ae ad;go_wp2
   go_ret3
   exact⟨by rw[HG.o.1,HG.o.2.1,HG.o.2.2];rfl,ao.o⟩
theorem TJ:∀(l:List UInt8)(a:Nat),(∀c∈l,AT c)->a<18446744073709551616->Lib.parseUint10 a l=if a*10^l.length+A0 l<18446744073709551616 then .ok (a*10^l.length+A0 l) else .range:=by
 intro l
 induction l with
 |nil=>
  intro a _ ha;simp only[Lib.parseUint10,yc,Nat.pow_zero,Nat.mul_one,EM,xH];rw[zE ha]
 |cons c l ih=>
  intro a h ha;have h1:=h c (by simp);have hp:1<=10^l.length:=wh (by omega)
  have e:a*10^(c::l).length+A0 (c::l)=(a*10+(c.toNat-48))*10^l.length+A0 l:=by
   rw[C8,zn,zy,yE,zz a 10,zw 10];omega
  rw[e];have s:a*10+(c.toNat-48)<=(a*10+(c.toNat-48))*10^l.length:=vQ _ hp;rw[Lib.parseUint10,zE (show 48<=c.toNat/\c.toNat<=57 from h1)]
  by_cases c1:1844674407370955162<=a
  .rw[zE c1,zC (by omega)]
  rw[zC c1]
  by_cases c2:18446744073709551616<=a*10+(c.toNat-48)
  .rw[zE c2,zC (by omega)]
  rw[zC c2];exact ih _ (fun d hd=>h d (by simp[hd])) (by omega)
theorem Rv(n:Nat):Lib.atoiAll (num n).data.toList=if n<=9223372036854775807 then .ok (n:Int) else .range:=by
 have hd:=AL n;have hv:=Aw n
 show Lib.atoiAll (Lib.decDigits n)=_
 cases hl:Lib.decDigits n with
 |nil=>exact absurd hl (AX n)
 |cons c r=>
  rw[hl]at hd hv;have h1:=hd c (by simp);have h2:=h1.1;have hp:=TJ (c::r) 0 hd (by omega);rw[xr,zm,hv]at hp;unfold Lib.atoiAll;simp only[Lib.parseMag];have a:¬c.toNat=45:=by omega
  have d:¬(c.toNat=43\/c.toNat=45):=by omega
  rw[zC d,zC (by simp),hp]
  by_cases hle:n<=9223372036854775807
  .rw[zE (by omega),zE hle];simp only[a];rw[zC (by omega),zC (by simp),zC (by simp)]
  rw[zC hle]
  by_cases h64:n<18446744073709551616
  .rw[zE h64];simp only[a];rw[zE ⟨by simp,by omega⟩]
  rw[zC h64]
theorem JZ(l:List UInt8)(n:Nat)(h:Rc l=true)(hv:A0 l=n):num n=⟨l.toArray⟩:=by
 have:=OC (s:=⟨l.toArray⟩) h;rw[<-this];exact congrArg num hv.symm
def T:Option Nat->ByteArray|some n=>num n|none=>⟨#[]⟩
def Ok(x:Option Nat):Prop:=∀n,x=some n->n<Lim
def MG(k:Nat):Option Nat:=if k<Lim then some k else none
def apO(f:Nat->Nat->Nat):Option Nat->Option Nat->Option Nat|some a,some b=>MG (f a b)|_,_=>none
def apE(f:Nat->Nat->Nat):Option Nat->Option Nat->Int|some a,some b=>if f a b<Lim then 0 else 2|_,_=>1
def Vi(x y:Option Nat):Option Nat:=apO (·+·) x y
def Vj(x y:Option Nat):Int:=apE (·+·) x y
def Vk(x y:Option Nat):Option Nat:=apO (·*·) x y
def Vl(x y:Option Nat):Int:=apE (·*·) x y
def Rx(x y:Option Nat):Option Nat:=apO Nat.gcd x y
def Ry(x y:Option Nat):Int:=apE Nat.gcd x y
def TK:Option Nat->Option Nat->Option Nat|some a,some b=>if b<=a then some (a-b) else none|_,_=>none
def TL:Option Nat->Option Nat->Int|some a,some b=>if b<=a then 0 else 10|_,_=>1
def TM:Option Nat->Option Nat->Option Nat|some a,some b=>if b=0 then none else some (a/b)|_,_=>none
def Wl:Option Nat->Option Nat->Option Nat|some a,some b=>if b=0 then none else some (a%b)|_,_=>none
def TN:Option Nat->Option Nat->Int|some _,some b=>if b=0 then 15 else 0|_,_=>1
def Rz:Option Nat->Option Nat->Int|some a,some b=>B0 a b|_,_=>0
def TO:Option Nat->Option Nat->Int|some _,some _=>0|_,_=>1
theorem An{n:Nat}(h:n<Lim):Ok (some n):=fun _ e=>by cases e;exact h
theorem CM{x:Option Nat}(h:Ok x):isN (T x)=x.isSome:=by
 cases x with
 |none=>rfl
 |some n=>exact BS (h n rfl)
theorem BH{x:Option Nat}(h:Ok x):(T x).size<=140737488355328:=by
 cases x with
 |none=>exact zO _
 |some n=>
  have h1:isN (T (some n))=true:=CM h;have h2:=((Ec _).1 h1).2.1;have h3:(T (some n)).size=(T (some n)).data.toList.length:=xM _;omega
theorem P6(x:Option Nat)(h:Ok x)(w:World):Calls prog 111 #[.string (T x)] w fun e w'=>e=.returned (.bool x.isSome)/\Below w.heap.size w w':=by
 have:=BG (T x) w (by have:=BH h;omega)
 rwa [CM h]at this
theorem R4(f:Nat->Nat->Nat){x y:Option Nat}(hx:Ok x)(hy:Ok y):opS (f (val (T x)) (val (T y))) (T x) (T y)=T (apO f x y)/\opE (f (val (T x)) (val (T y))) (T x) (T y)=apE f x y:=by
 cases x with
 |none=>exact JY (.inl rfl)
 |some a=>
  cases y with
  |none=>exact JY (.inr rfl)
  |some b=>
   have h:=Fp (k:=f (val (T (some a))) (val (T (some b)))) (CM hx) (CM hy);have ha:val (T (some a))=a:=Bu a;have hb:val (T (some b))=b:=Bu b;rw[ha,hb]at h ⊢;rw[h.1,h.2]
   show EQ (f a b)=T (MG (f a b))/\ER (f a b)=if f a b<Lim then 0 else 2
   unfold MG EQ ER
   by_cases hl:f a b<Lim
   .rw[zE hl,zE hl,zE hl];exact⟨rfl,rfl⟩
   rw[zC hl,zC hl,zC hl];exact⟨rfl,rfl⟩
theorem WP(x y:Option Nat)(w:World)(hE:Env w)(hx:Ok x)(hy:Ok y):Calls prog 120 #[.string (T x),.string (T y)] w fun e w'=>e=.returned (.tuple #[.string (T (Vi x y)),.int .i64 (Vj x y)])/\Below w.heap.size w w':=by
 refine(TD (T x) (T y) w hE (BH hx) (BH hy)).q fun w' hb=>?_;have:=R4 (·+·) hx hy;exact⟨by rw[this.1,this.2];rfl,hb⟩
theorem WQ(x y:Option Nat)(w:World)(hE:Env w)(hx:Ok x)(hy:Ok y):Calls prog 69 #[.string (T x),.string (T y)] w fun e w'=>e=.returned (.tuple #[.string (T (Vk x y)),.int .i64 (Vl x y)])/\Below w.heap.size w w':=by
 refine(TE (T x) (T y) w hE (BH hx) (BH hy)).q fun w' hb=>?_;have:=R4 (·*·) hx hy;exact⟨by rw[this.1,this.2];rfl,hb⟩
theorem TP(x y:Option Nat)(w:World)(hE:Env w)(hx:Ok x)(hy:Ok y):Calls prog 67 #[.string (T x),.string (T y)] w fun e w'=>e=.returned (.tuple #[.string (T (Rx x y)),.int .i64 (Ry x y)])/\Below w.heap.size w w':=by
 refine(TF (T x) (T y) w hE (BH hx) (BH hy)).q fun w' hb=>?_;have:=R4 Nat.gcd hx hy;exact⟨by rw[this.1,this.2];rfl,hb⟩
theorem Wm(x y:Option Nat)(w:World)(hE:Env w)(hx:Ok x)(hy:Ok y):Calls prog 122 #[.string (T x),.string (T y)] w fun e w'=>e=.returned (.tuple #[.string (T (TK x y)),.int .i64 (TL x y)])/\Below w.heap.size w w':=by
 refine(TG (T x) (T y) w hE (BH hx) (BH hy)).q fun w' hb=>?_;refine⟨?_,hb⟩;have h1:=CM hx;have h2:=CM hy
 cases x with
 |none=>unfold IM IN;rw[h1];rfl
 |some a=>
  cases y with
  |none=>unfold IM IN;rw[h2];simp;exact⟨rfl,rfl⟩
  |some b=>
   have ha:val (T (some a))=a:=Bu a;have hb:val (T (some b))=b:=Bu b;unfold IM IN TK TL;rw[h1,h2,ha,hb]
   by_cases h:b<=a
   .simp[h,T]
   simp[h,T]
theorem P7(x y:Option Nat)(w:World)(hE:Env w)(hx:Ok x)(hy:Ok y):Calls prog 68 #[.string (T x),.string (T y)] w fun e w'=>e=.returned (.tuple #[.string (T (TM x y)),.string (T (Wl x y)),.int .i64 (TN x y)])/\Below w.heap.size w w':=by
 refine(TI (T x) (T y) w hE (BH hx) (BH hy)).q fun w' hb=>?_;refine⟨?_,hb⟩;have h1:=CM hx;have h2:=CM hy
 cases x with
 |none=>unfold Hn Ho Hp;rw[h1];rfl
 |some a=>
  cases y with
  |none=>unfold Hn Ho Hp;rw[h2];simp;exact⟨rfl,rfl,rfl⟩
  |some b=>
   have ha:val (T (some a))=a:=Bu a;have hb:val (T (some b))=b:=Bu b;unfold Hn Ho Hp TM Wl TN;rw[h1,h2,ha,hb]
   by_cases h:b=0
   .simp[h,T]
   simp[h,T]
theorem Wn(x y:Option Nat)(w:World)(hE:Env w)(hx:Ok x)(hy:Ok y):Calls prog 121 #[.string (T x),.string (T y)] w fun e w'=>e=.returned (.tuple #[.int .i64 (Rz x y),.int .i64 (TO x y)])/\Below w.heap.size w w':=by
 refine(GR (T x) (T y) w hE (BH hx) (BH hy)).q fun w' hb=>?_;refine⟨?_,hb⟩;have h1:=CM hx;have h2:=CM hy
 cases x with
 |none=>unfold Gb Gc;rw[h1];rfl
 |some a=>
  cases y with
  |none=>unfold Gb Gc;rw[h2];simp;exact⟨rfl,rfl⟩
  |some b=>
   have ha:val (T (some a))=a:=Bu a;have hb:val (T (some b))=b:=Bu b;unfold Gb Gc Rz TO;rw[h1,h2,ha,hb];simp
theorem R7:T (some 0)=⟨#[48]⟩:=JZ [48] 0 (by decide) (by decide)
theorem R8:(T (some 0)).toList=[48]:=by rw[R7,yP]
theorem Hx{a b:Nat}(ha:a<Lim)(hb:b<Lim):Nat.gcd a b<Lim:=by
 rcases yj a with rfl|h
 .rwa [v4]
 exact yM (Nat.gcd_le_left b h) ha
theorem UP:T (some 1)=⟨#[49]⟩:=JZ [49] 1 (by decide) (by decide)
def sg(g:Bool)(a:Nat):Int:=if g then -(a:Int) else a
theorem Cm(g:Bool)(a:Nat):(sg g a).natAbs=a:=by cases g<;>simp[sg]
theorem R9(g:Bool)(a:Nat):decide (sg g a<0)=(g&&!decide (a=0)):=by
 rw[wD]
 cases g
 .simp[sg]
 simp[sg];omega
theorem Cz(z:Int):sg (decide (z<0)) z.natAbs=z:=by
 unfold sg
 by_cases h:z<0
 .simp[h];omega
 simp[h];omega
theorem RA(g h:Bool)(a b:Nat):sg g a*sg h b=sg (g != h) (a*b):=by
 cases g<;>cases h<;>simp[sg,Int.neg_mul,Int.mul_neg]
theorem RB(g:Bool)(a b:Nat)(hb:b≠0):(mkRat (sg g a) b).num=sg g (a/Nat.gcd a b):=by
 rw[Rat.num_mkRat,zC hb,Cm,vU]
 cases g
 .simp[sg]
 simp only[sg,vI];rw[Int.neg_ediv_of_dvd (Int.ofNat_dvd.2 (Nat.gcd_dvd_left a b)),vE]
theorem RC(g:Bool)(a b:Nat)(hb:b≠0):(mkRat (sg g a) b).den=b/Nat.gcd a b:=by
 rw[Rat.den_mkRat,zC hb,Cm,vU]
def qv(q:Rat):Value:=.agg #[.bool (decide (q.num<0)),.string (T (some q.num.natAbs)),.string (T (some q.den))]
def zv:Value:=.agg #[.bool false,.string ⟨#[]⟩,.string ⟨#[]⟩]
def OkQ(q:Rat):Prop:=q.num.natAbs<Lim/\q.den<Lim
theorem UQ(g:Bool)(a b:Nat)(hb:b≠0):qv (mkRat (sg g a) b)=.agg #[.bool (g&&!decide (a/Nat.gcd a b=0)),.string (T (some (a/Nat.gcd a b))),.string (T (some (b/Nat.gcd a b)))]:=by
 unfold qv;rw[RB g a b hb,RC g a b hb,R9,Cm]
def As(g:Bool)(n d:ByteArray):Bool :=
 isN n&&(isN d&&(!decide (val d=0)&&(if val n=0 then !g&&decide (val d=1) else decide (Nat.gcd (val n) (val d)=1))))
theorem Fq(g:Bool)(a b:Nat)(ha:a<Lim)(hb:b<Lim):As g (num a) (num b)=(!decide (b=0)&&(if a=0 then !g&&decide (b=1) else decide (Nat.gcd a b=1))):=by
 unfold As;rw[BS ha,BS hb,Bu,Bu,xF,xF]
theorem AY{q:Rat}(h:OkQ q):As (decide (q.num<0)) (T (some q.num.natAbs)) (T (some q.den))=true:=by
 show As _ (num _) (num _)=true
 rw[Fq _ _ _ h.1 h.2];have hd:=q.den_nz;have hr:Nat.gcd q.num.natAbs q.den=1:=q.reduced
 by_cases h0:q.num.natAbs=0
 .rw[h0,v4]at hr;have:¬q.num<0:=by omega
  simp[h0,hr,this]
 simp[h0,hd,hr]
theorem KY{g:Bool}{n d:ByteArray}(h:As g n d=true):∃q:Rat,OkQ q/\g=decide (q.num<0)/\n=T (some q.num.natAbs)/\d=T (some q.den):=by
 have h1:isN n=true:=by unfold As at h;simp only[yI]at h;exact h.1
 have h2:isN d=true:=by unfold As at h;simp only[yI]at h;exact h.2.1
 obtain⟨a,ha,rfl⟩:=BT h1;obtain⟨b,hb,rfl⟩:=BT h2;rw[Fq g a b ha hb]at h;simp only[yI,Bool.not_eq_true',zM]at h;obtain⟨aa,h3⟩:=h
 have s:Nat.gcd a b=1:=by
  by_cases h0:a=0
  .rw[zE h0]at h3;simp at h3;rw[h0,h3.2];rfl
  rw[zC h0]at h3
  simpa using h3
 have hg:g=decide (sg g a<0):=by
  rw[R9]
  by_cases h0:a=0
  .rw[zE h0]at h3;simp at h3;rw[h3.1];rfl
  simp[h0]
 refine⟨⟨sg g a,b,aa,by rw[Cm];exact s⟩,⟨by show (sg g a).natAbs<Lim;rw[Cm];exact ha,hb⟩,hg,?_,rfl⟩
 show num a=num (sg g a).natAbs
 rw[Cm]
@[irreducible] def mx1:Nat:=140
theorem ES:mx1=140:=by unfold mx1;rfl
def L1:Nat:=10^mx1
theorem Hy(n:Nat):(num n).size<=140<->n<L1:=by
 have:=Bm n mx1 (by rw[ES];omega);have e:(num n).size=(Lib.decDigits n).length:=by simp[num,ByteArray.size]
 rw[e,<-ES];exact this
theorem Vm:1<=L1:=wh (by omega)
theorem GS:2*(L1*L1)<Lim:=by
 have e:L1*L1=10^(mx1+mx1):=by unfold L1;rw[xf]
 have h:10^(mx1+mx1+1)<=Lim:=by
  unfold Lim;exact zW (by omega) (by rw[ES,Dk];omega)
 rw[zy]at h;rw[e];have h2:0<10^(mx1+mx1):=wh (by omega);omega
theorem Ca{a b:Nat}(ha:a<L1)(hb:b<L1):a*b<L1*L1:=xO ha hb
theorem AF{a:Nat}(h:a<L1):a<Lim:=by
 have h1:=GS;have h2:=Vm;have h3:L1*1<=L1*L1:=yT _ h2;omega
def ShortQ(q:Rat):Prop:=q.num.natAbs<L1/\q.den<L1
instance (q:Rat):Decidable (ShortQ q):=inferInstanceAs (Decidable (_/\_))
theorem ShortQ.ok{q:Rat}(h:ShortQ q):OkQ q:=⟨AF h.1,AF h.2⟩
theorem FM(p q:Rat):mkRat (p.num*q.den+q.num*p.den) (p.den*q.den)=p+q:=(Rat.add_def' p q).symm
theorem KZ{g:Bool}{x y:Nat}{p q:Rat}(hp:g=decide (p.num<0))(hq:g=decide (q.num<0))(hx:x=p.num.natAbs*q.den)(hy:y=q.num.natAbs*p.den):
 sg g (x+y)=p.num*q.den+q.num*p.den:=by
 rw[<-Cz p.num,<-Cz q.num,<-hp,<-hq,hx,hy]
 cases g
 .simp[sg]
 simp only[sg,vI,yh,ya,Int.neg_mul];omega
theorem La{g h:Bool}{x y:Nat}{p q:Rat}(hp:g=decide (p.num<0))(hq:h=decide (q.num<0))(hx:x=p.num.natAbs*q.den)(hy:y=q.num.natAbs*p.den)(a:g≠h)(hl:x<y):
 sg h (y-x)=p.num*q.den+q.num*p.den:=by
 rw[<-Cz p.num,<-Cz q.num,<-hp,<-hq];have e1:(x:Int)=(p.num.natAbs:Int)*(q.den:Int):=by rw[hx,ya]
 have e2:(y:Int)=(q.num.natAbs:Int)*(p.den:Int):=by rw[hy,ya]
 cases g<;>cases h<;>simp only[sg,vI,vL,if_false,Int.neg_mul,ne_eq,not_true_eq_false]at a ⊢
 all_goals omega
theorem Lb{g h:Bool}{x y:Nat}{p q:Rat}(hp:g=decide (p.num<0))(hq:h=decide (q.num<0))(hx:x=p.num.natAbs*q.den)(hy:y=q.num.natAbs*p.den)(a:g≠h)(hl:y<=x):
 sg g (x-y)=p.num*q.den+q.num*p.den:=by
 rw[<-Cz p.num,<-Cz q.num,<-hp,<-hq];have e1:(x:Int)=(p.num.natAbs:Int)*(q.den:Int):=by rw[hx,ya]
 have e2:(y:Int)=(q.num.natAbs:Int)*(p.den:Int):=by rw[hy,ya]
 cases g<;>cases h<;>simp only[sg,vI,vL,if_false,Int.neg_mul,ne_eq,not_true_eq_false]at a ⊢
 all_goals omega
theorem RD(p q:Rat):mkRat (sg (decide (p.num<0) != decide (q.num<0)) (p.num.natAbs*q.num.natAbs)) (p.den*q.den)=p*q:=by
 rw[<-RA,Cz,Cz,Rat.mul_def']
theorem RE(p q:Rat):mkRat (sg (decide (p.num<0) != decide (q.num<0)) (p.num.natAbs*q.den)) (p.den*q.num.natAbs)=p/q:=by
 have hi:q⁻¹=mkRat (sg (decide (q.num<0)) q.den) q.num.natAbs:=by
  rw[Rat.inv_def];unfold sg
  by_cases hn:q.num<0
  .have e:q.num=-((q.num.natAbs:Nat):Int):=by omega
   rw[zH hn,zE rfl]
   conv=>lhs;rw[e]
   rw[Rat.divInt_neg',Rat.divInt_ofNat]
  have e:q.num=((q.num.natAbs:Nat):Int):=by omega
  rw[zD hn]
  conv=>lhs;rw[e]
  rw[Rat.divInt_ofNat];rfl
 have hp:p=mkRat (sg (decide (p.num<0)) p.num.natAbs) p.den:=by rw[Cz,Rat.mkRat_self]
 show _=p*q⁻¹
 rw[hi]
 conv=>rhs;rw[hp]
 rw[Rat.mkRat_mul_mkRat,RA]
end Nt
end
section
open Go.RowKit Go.Shelf
namespace Ci
open Nt
abbrev Lk:=Int×Int×Bool×ByteArray×ByteArray
def InLk(W:World)(A:Option Addr)(l:List Lk):Prop :=
 0<l.length->∃b off,A=some ⟨b,off,none⟩/\b<W.heap.size/\∀j (h:j<l.length),W.cell? ⟨b,off+j*5,none⟩=some (.int .i64 l[j].1)/\W.cell? ⟨b,off+j*5+1,none⟩=some (.int .i64 l[j].2.1) /\
  W.cell? ⟨b,off+j*5+2,none⟩=some (.bool l[j].2.2.1)/\W.cell? ⟨b,off+j*5+3,none⟩=some (.string l[j].2.2.2.1)/\W.cell? ⟨b,off+j*5+4,none⟩=some (.string l[j].2.2.2.2)
def InStr(W:World)(A:Option Addr)(l:List ByteArray):Prop :=
 0<l.length->∃b off,A=some ⟨b,off,none⟩/\b<W.heap.size/\∀j (h:j<l.length),W.cell? ⟨b,off+j,none⟩=some (.string l[j])
def InInt(W:World)(A:Option Addr)(l:List Int):Prop :=
 0<l.length->∃b off,A=some ⟨b,off,none⟩/\b<W.heap.size/\∀j (h:j<l.length),W.cell? ⟨b,off+j,none⟩=some (.int .i64 l[j])
theorem InLk.below{W W':World}{A:Option Addr}{l:List Lk}(h:InLk W A l)(hb:Below W.heap.size W W'):InLk W' A l:=fun h0=>by
 obtain⟨b,off,e,hl,hc⟩:=h h0;refine⟨b,off,e,zL hl hb.size,fun j hj=>?_⟩;obtain⟨c1,c2,c3,c4,c5⟩:=hc j hj;exact⟨(hb.cell (p:=⟨b,_,none⟩) hl).trans c1,(hb.cell (p:=⟨b,_,none⟩) hl).trans c2,(hb.cell (p:=⟨b,_,none⟩) hl).trans c3,(hb.cell (p:=⟨b,_,none⟩) hl).trans c4,(hb.cell (p:=⟨b,_,none⟩) hl).trans c5⟩
theorem InStr.below{W W':World}{A:Option Addr}{l:List ByteArray}(h:InStr W A l)(hb:Below W.heap.size W W'):InStr W' A l:=fun h0=>by
 obtain⟨b,off,e,hl,hc⟩:=h h0;exact⟨b,off,e,zL hl hb.size,fun j hj=>(hb.cell (p:=⟨b,_,none⟩) hl).trans (hc j hj)⟩
theorem InInt.below{W W':World}{A:Option Addr}{l:List Int}(h:InInt W A l)(hb:Below W.heap.size W W'):InInt W' A l:=fun h0=>by
 obtain⟨b,off,e,hl,hc⟩:=h h0;exact⟨b,off,e,zL hl hb.size,fun j hj=>(hb.cell (p:=⟨b,_,none⟩) hl).trans (hc j hj)⟩
def B4(i c:Nat):Prop:=(97<=c/\c<=122)\/(65<=c/\c<=90)\/(i≠0/\(c=95\/(48<=c/\c<=57)))
instance (i c:Nat):Decidable (B4 i c):=inferInstanceAs (Decidable (_\/_))
def A4(s:ByteArray):Bool:=decide (∀i (h:i<s.size),B4 i s[i].toNat)&&(decide (0<s.size)&&decide (s.size<=24))
theorem Jh{s:ByteArray}{i:Nat}(h:i<s.size)(hb:¬B4 i s[i].toNat):A4 s=false:=by
 unfold A4;rw[zD fun hc=>hb (hc i h)];rfl
theorem Ji{s:ByteArray}(h:∀i (h:i<s.size),B4 i s[i].toNat):A4 s=(decide (0<s.size)&&decide (s.size<=24)):=by
 unfold A4;rw[zH h];rfl
abbrev Rw:=Bool×ByteArray×ByteArray
def unitsN(x:Rw):Nat :=
 if As x.1 x.2.1 x.2.2=false\/x.1=true\/4<x.2.1.size\/4<x.2.2.size then 0
 else if val x.2.2<val x.2.1\/6000%val x.2.2≠0 then 0 else val x.2.1*(6000/val x.2.2)
theorem Lc(x:Rw):unitsN x<=6000:=by
 unfold unitsN
 split
 .omega
 split
 .omega
 rename_i h;have h1:val x.2.1<=val x.2.2:=by omega
 exact zV (yO _ h1) (Nat.mul_div_le _ _)
def lkP(x:Lk):Rw:=(x.2.2.1,x.2.2.2.1,x.2.2.2.2)
def sumU(l:List Lk)(c:Int):Nat:=((l.filter fun x=>decide (x.1=c)).map fun x=>unitsN (lkP x)).sum
def IO(a b:Lk):Prop:=a.1<b.1\/(a.1=b.1/\a.2.1<b.2.1)
instance (a b:Lk):Decidable (IO a b):=inferInstanceAs (Decidable (_\/_))
def Own(n:Nat)(x:Lk):Prop:=(0<=x.1/\x.1<n)/\(0<=x.2.1/\x.2.1<n)/\x.1≠x.2.1/\unitsN (lkP x)≠0
instance (n:Nat) (x:Lk):Decidable (Own n x):=inferInstanceAs (Decidable (_/\_))
def BU(n:Nat)(l:List Lk)(i:Nat)(h:i<l.length):Prop:=Own n l[i]/\(0<i->IO (l[i-1]'(by omega)) l[i])/\sumU (l.take (i+1)) l[i].1<=6000
instance (n:Nat) (l:List Lk) (i:Nat) (h:i<l.length):Decidable (BU n l i h):=inferInstanceAs (Decidable (_/\_))
def Dc(n:Nat)(l:List Lk):Bool:=decide (∀i (h:i<l.length),BU n l i h)
theorem Ld{n:Nat}{l:List Lk}{i:Nat}(h:i<l.length)(hb:¬BU n l i h):Dc n l=false:=zD fun hc=>hb (hc i h)
theorem Le{n:Nat}{l:List Lk}(h:∀i (h:i<l.length),BU n l i h):Dc n l=true:=zH h
theorem Dq{n:Nat}{l:List Lk}(h:Dc n l=true){i:Nat}(hi:i<l.length):BU n l i hi:=zf h i hi
structure SR where
 ps:List ByteArray
 cap:List Lk
 vot:List Lk
def IP(a b:ByteArray):Bool:=Op.bytesLess a.toList b.toList||a.toList==b.toList
def C4(l:List ByteArray)(i:Nat)(h:i<l.length):Prop:=A4 l[i]=true/\(0<i->IP l[i] (l[i-1]'(by omega))=false)
instance (l:List ByteArray) (i:Nat) (h:i<l.length):Decidable (C4 l i h):=inferInstanceAs (Decidable (_/\_))
def FN(l:List ByteArray):Bool:=decide (∀i (h:i<l.length),C4 l i h)
theorem Jj{l:List ByteArray}{i:Nat}(h:i<l.length)(hb:¬C4 l i h):FN l=false:=zD fun hc=>hb (hc i h)
theorem Jk{l:List ByteArray}(h:∀i (h:i<l.length),C4 l i h):FN l=true:=zH h
def Am(s:SR):Bool:=FN s.ps&&(decide (s.ps.length<=60)&&(Dc s.ps.length s.cap&&Dc s.ps.length s.vot))
def Ad(s:SR):List (Nat×Nat):=s.cap.map fun x=>(x.2.1.toNat,x.1.toNat)
theorem ET{s:SR}(h:Am s=true):InN s.ps.length (Ad s):=fun x hx=>by
 unfold Am at h;simp only[yI]at h;obtain⟨_,_,h2,_⟩:=h;obtain⟨y,hy,rfl⟩:=List.mem_map.1 hx;obtain⟨i,hi,rfl⟩:=zl hy;obtain⟨⟨a,b,_⟩,_⟩:=Dq h2 hi
 show _<_/\_<_
 simp only[];omega
end Ci
end
section
open Go.ChangeShapes Go.WideShapes Go.ChangeAt Go.RowKit Go.Shelf
namespace Nt
def Lf:List (String×DataW Unit):=Rows.boundJoinsRow.laid
theorem Vn:(prog.globals[2]?).map (·.type)=some 218:=by kernel_rfl
theorem Vo:(prog.globals[0]?).map (·.type)=some 128:=by kernel_rfl
theorem Vp:(prog.globals[1]?).map (·.type)=some 128:=by kernel_rfl
theorem P8:prog.cellsOf 154=1:=by kernel_rfl
theorem P9:prog.cellsOf 218=20:=by kernel_rfl
theorem Jl:prog.cellsOf 9=1:=by kernel_rfl
theorem Lg:prog.cellsOf 214=1:=by kernel_rfl
theorem Wo:"*"++"errors.errorString"="*errors.errorString" := by decide
theorem RF(u:TypeId)(h:prog.typeName? 3 u=some "*errors.errorString"):u=212 :=
 typeName_ptr_named (nm := "errors.errorString") (by rw[Wo]; kernel_rfl) (by kernel_rfl) (by decide) u (by rw[Wo]; exact h)
theorem Vq{W:World}(h:laidMetH prog Lf W):Env W:=by
 have h0:=(laidMetH_iff.1 h).1
 have hT:laidMet prog [("internal/strconv.uint64pow10", Lib.tabData .u64 Lib.pow10Tab)] W := by
  have := h0.filter (fun x=>x.1=="internal/strconv.uint64pow10")
  rwa [show (Lf.filter fun x=>x.2.handleName?.isNone).filter (fun x=>x.1=="internal/strconv.uint64pow10")=[("internal/strconv.uint64pow10", Lib.tabData .u64 Lib.pow10Tab)] by kernel_rfl]at this
 have hS:laidMet prog [("strconv.ErrSyntax", .iface "*errors.errorString" (.ptr (.agg [.lit (.string [105, 110, 118, 97, 108, 105, 100, 32, 115, 121, 110, 116, 97, 120])])))] W := by
  have := h0.filter (fun x=>x.1=="strconv.ErrSyntax")
  rwa [show (Lf.filter fun x=>x.2.handleName?.isNone).filter (fun x=>x.1=="strconv.ErrSyntax")=[("strconv.ErrSyntax", .iface "*errors.errorString" (.ptr (.agg [.lit (.string [105, 110, 118, 97, 108, 105, 100, 32, 115, 121, 110, 116, 97, 120])])))] by kernel_rfl]at this
 have hR:laidMet prog [("strconv.ErrRange", .iface "*errors.errorString" (.ptr (.agg [.lit (.string [118, 97, 108, 117, 101, 32, 111, 117, 116, 32, 111, 102, 32, 114, 97, 110, 103, 101])])))] W := by
  have := h0.filter (fun x=>x.1=="strconv.ErrRange")
  rwa [show (Lf.filter fun x=>x.2.handleName?.isNone).filter (fun x=>x.1=="strconv.ErrRange")=[("strconv.ErrRange", .iface "*errors.errorString" (.ptr (.agg [.lit (.string [118, 97, 108, 117, 101, 32, 111, 117, 116, 32, 111, 102, 32, 114, 97, 110, 103, 101])])))] by kernel_rfl]at this
 refine⟨Lib.tabIs_of_head O6 Vn underlying218 underlying154 P8 P9 hT,?_,?_⟩
 .obtain⟨a0,s0,a,-,-,-⟩:=laid_sentinel hS QX Vo underlying128 RF underlying212 underlying214 rfl rfl underlying9 Lg Jl;exact⟨_,_,a⟩
 obtain⟨a0,s0,a,-,-,-⟩:=laid_sentinel hR QY Vp underlying128 RF underlying212 underlying214 rfl rfl underlying9 Lg Jl;exact⟨_,_,a⟩
noncomputable def Dx(os:Os):World :=
 { World.doorLaid prog 72 os with heap:=(World.doorLaid prog 72 os).heap.modify 3 fun
  |.cells _ t frozen=>.cells (Go.Pinned.utf8FirstZ.map fun(z:Nat)=>Value.int .u8 z).toArray t frozen
  |o=>o }
theorem own:ownKnob prog.godebug=none:=by kernel_rfl
theorem laid_met(os:Os)(args:Array Value):laidMetH prog Lf ((Dx os).forCall (fun _ _=>0) ⟨#[],args,[]⟩).memory :=
 laidMet_of_run3 8 (by kernel_rfl) (by kernel_rfl) (by kernel_rfl)
theorem TQ(os:Os)(args:Array Value):((Dx os).forCall (fun _ _=>0) ⟨#[],args,[]⟩).variablesRefB prog=true:=by kernel_rfl
theorem TR(os:Os)(args:Array Value):(((Dx os).forCall (fun _ _=>0) ⟨#[],args,[]⟩).heap.toList.drop prog.globals.size).take ((begin prog (fun _ _=>0) default).world.heap.size-prog.globals.size) =
 (begin prog (fun _ _=>0) default).world.heap.toList.drop prog.globals.size:=by kernel_rfl
end Nt
end
section
open Go.RowKit Go.Shelf
namespace Nt
def B3(W:World)(b:Nat)(g:Bool)(n d:ByteArray):Prop:=W.heap[b]? = some (.cells #[.bool g,.string n,.string d] 34 (0,0))
theorem B3.lt{W:World}{b:Nat}{g:Bool}{n d:ByteArray}(h:B3 W b g n d):b<W.heap.size:=(Array.getElem?_eq_some_iff.1 h).1
theorem B3.facts{W:World}{b:Nat}{g:Bool}{n d:ByteArray}(h:B3 W b g n d):
 W.cell? ⟨b,0,none⟩=some (.bool g)/\W.cell? ⟨b,1,none⟩=some (.string n)/\W.cell? ⟨b,2,none⟩=some (.string d) /\
 W.frozen? ⟨b,0,none⟩=false/\W.frozen? ⟨b,1,none⟩=false/\W.frozen? ⟨b,2,none⟩=false:=by
 unfold B3 at h;simp[World.cell?,World.frozen?,h]
theorem B3.new(w:World)(g:Bool)(n d:ByteArray):B3 (w.alloc (.cells #[.bool g,.string n,.string d] 34)) w.heap.size g n d:=zo _ _
theorem B3.alloc{W:World}{b:Nat}{g:Bool}{n d:ByteArray}(h:B3 W b g n d)(o:Obj):B3 (W.alloc o) b g n d:=(yZ W o b h.lt).trans h
theorem B3.below{W W':World}{b:Nat}{g:Bool}{n d:ByteArray}(h:B3 W b g n d)(hb:Below W.heap.size W W'):B3 W' b g n d:=(hb.block b h.lt).trans h
theorem B3.other{W:World}{b:Nat}{g:Bool}{n d:ByteArray}(h:B3 W b g n d){p:Addr}(hp:b≠p.block)(v:Value):B3 (W.setCell p v) b g n d:=(zg _ _ _ _ hp).trans h
theorem B3.set0{W:World}{b:Nat}{g:Bool}{n d:ByteArray}(h:B3 W b g n d)(g':Bool):B3 (W.setCell ⟨b,0,none⟩ (.bool g')) b g' n d:=by
 unfold B3 at h ⊢;simp[World.setCell,Array.getElem?_modify,h]
theorem B3.set1{W:World}{b:Nat}{g:Bool}{n d:ByteArray}(h:B3 W b g n d)(n':ByteArray):B3 (W.setCell ⟨b,1,none⟩ (.string n')) b g n' d:=by
 unfold B3 at h ⊢;simp[World.setCell,Array.getElem?_modify,h]
theorem B3.set2{W:World}{b:Nat}{g:Bool}{n d:ByteArray}(h:B3 W b g n d)(d':ByteArray):B3 (W.setCell ⟨b,2,none⟩ (.string d')) b g n d':=by
 unfold B3 at h ⊢;simp[World.setCell,Array.getElem?_modify,h]
theorem Vr(n:Nat):((num n).toList==[49])=decide (n=1):=by
 have e:(num 1).toList=[49]:=by rw[show num 1=⟨#[49]⟩ from UP,yP]
 rw[<-e,wD,yL,wO,yP,yP];constructor
 .intro h;have:=congrArg A0 h;have e1:A0 (num n).data.toList=n:=Aw n;have e2:A0 (num 1).data.toList=1:=Aw 1
  rwa [e1,e2]at this
 intro h;rw[h]
theorem TS(n:Nat):((num n).toList==[48])=decide (n=0):=by
 have e:(num 0).toList=[48]:=R8;rw[<-e,wD,yL,wO,yP,yP];constructor
 .intro h;have:=congrArg A0 h;have e1:A0 (num n).data.toList=n:=Aw n;have e2:A0 (num 0).data.toList=0:=Aw 0
  rwa [e1,e2]at this
 intro h;rw[h]
theorem MH(g:Bool)(n d:ByteArray)(w:World)(hn:n.size<=140737488355328)(h:isN n=false):
 Calls prog 66 #[.agg #[.bool g,.string n,.string d]] w fun e w'=>e=.returned (.bool false)/\Below w.heap.size w w':=by
 go_enter func66,ntmps66
 go_wp2_with fail
 refine(BG n _ (by omega)).q fun w1 a=>?_;rw[h];go_wp2;go_ret;exact⟨rfl,((zI _ w).alloc (zB _) _).trans (a.mono (by simp))⟩
theorem MI(g:Bool)(n d:ByteArray)(w:World)(hn:n.size<=140737488355328)(hd:d.size<=140737488355328)(h:isN n=true)(h':isN d=false):
 Calls prog 66 #[.agg #[.bool g,.string n,.string d]] w fun e w'=>e=.returned (.bool false)/\Below w.heap.size w w':=by
 have H:=zh h';clear h';go_enter func66,ntmps66
 go_wp2_with fail
 refine(BG n _ (by omega)).q fun w1 s=>?_;rw[h];have q1:=(B3.new w g n d).below s;obtain⟨a1,a2,a3,a4,a5,a6⟩:=q1.facts;have a:=zh (((zI _ w).alloc (zB _) _).trans (s.mono (by simp)));replace q1:=zh q1;clear s
 go_wp2_with fail
 refine(BG d _ (by omega)).q fun w2 aa=>?_;rw[H.o];have ab:=a.t aa;clear aa a;go_wp2;go_ret;exact⟨rfl,ab.o⟩
theorem Gd(n:Nat):((T (some n)).toList==[49])=decide (n=1):=Vr n
theorem AM(n:Nat):((T (some n)).toList==[48])=decide (n=0):=TS n
theorem MJ(g:Bool)(a:Nat)(w:World)(ha:a<Lim):
 Calls prog 66 #[.agg #[.bool g,.string (T (some a)),.string (T (some 0))]] w fun e w'=>e=.returned (.bool false)/\Below w.heap.size w w':=by
 have z:=AM 0;rw[zH rfl]at z;have h0:0<Lim:=by omega
 go_enter func66,ntmps66
 go_wp2_with fail
 refine(P6 (some a) (An ha) _).q fun w1 h=>?_;rw[xy];have q1:=(B3.new w g (T (some a)) (T (some 0))).below h;obtain⟨a1,a2,a3,a4,a5,a6⟩:=q1.facts;have d:=zh (((zI _ w).alloc (zB _) _).trans (h.mono (by simp)));replace q1:=zh q1;clear h
 go_wp2_with fail
 refine(P6 (some 0) (An h0) _).q fun w2 s=>?_;rw[xy];obtain⟨b1,b2,b3,b4,b5,b6⟩:=(q1.o.below s).facts;have aa:=d.t s;clear s d;go_wp2;go_ret;exact⟨rfl,aa.o⟩
theorem MK(g:Bool)(b:Nat)(w:World)(hb:b<Lim)(d:b≠0):
 Calls prog 66 #[.agg #[.bool g,.string (T (some 0)),.string (T (some b))]] w fun e w'=>e=.returned (.bool (!g&&decide (b=1)))/\Below w.heap.size w w':=by
 obtain⟨r,hr⟩:∃r,r=decide (b=1):=⟨_,rfl⟩;rw[<-hr]
 cases g<;>cases r
 all_goals
  have z:=AM 0;rw[zH rfl]at z;have z2:=AM b;rw[zD d]at z2;have z3:=Gd b;rw[<-hr]at z3;clear hr;have h0:0<Lim:=by omega
  replace d:=zh d;go_enter func66,ntmps66
  go_wp2_with fail
  refine(P6 (some 0) (An h0) _).q fun w1 h=>?_;rw[xy];have q1:=(B3.new w _ (T (some 0)) (T (some b))).below h;obtain⟨a1,a2,a3,a4,a5,a6⟩:=q1.facts;have a:=zh (((zI _ w).alloc (zB _) _).trans (h.mono (by simp)));replace q1:=zh q1;clear h
  go_wp2_with fail
  refine(P6 (some b) (An hb) _).q fun w2 s=>?_;rw[xy];obtain⟨b1,b2,b3,b4,b5,b6⟩:=(q1.o.below s).facts;have aa:=a.t s;clear s a;go_wp2;go_ret;exact⟨rfl,aa.o⟩
theorem PA(g:Bool)(a b:Nat)(w:World)(hE:Env w)(ha:a<Lim)(hb:b<Lim)(s:a≠0)(aa:b≠0):
 Calls prog 66 #[.agg #[.bool g,.string (T (some a)),.string (T (some b))]] w fun e w'=>e=.returned (.bool (decide (Nat.gcd a b=1)))/\Below w.heap.size w w':=by
 have z:=AM a;rw[zD s]at z;have z2:=AM b;rw[zD aa]at z2;have z3:=Gd (Nat.gcd a b)
 have hG:Hid (Rx (some a) (some b)=some (Nat.gcd a b)/\Ry (some a) (some b)=0):=by
  have:=Hx ha hb;exact⟨by simp only[Rx,apO,MG,zE this],by simp only[Ry,apE,zE this]⟩
 replace s:=zh s;replace aa:=zh aa;replace hE:=zh hE;go_enter func66,ntmps66
 go_wp2_with fail
 refine(P6 (some a) (An ha) _).q fun w1 ab=>?_;rw[xy];have q1:=(B3.new w g (T (some a)) (T (some b))).below ab;obtain⟨a1,a2,a3,a4,a5,a6⟩:=q1.facts;have h:=zh (((zI _ w).alloc (zB _) _).trans (ab.mono (by simp)));replace q1:=zh q1;clear ab
 go_wp2_with fail
 refine(P6 (some b) (An hb) _).q fun w2 ad=>?_;rw[xy];obtain⟨b1,b2,b3,b4,b5,b6⟩:=(q1.o.below ad).facts;have d:=h.t ad;clear ad h q1
 go_wp2_with fail
 refine(TP (some a) (some b) _ (hE.o.below d.o) (An ha) (An hb)).q fun w3 ae=>?_;rw[hG.o.1,hG.o.2];have af:=d.t ae;clear ae d;go_wp2;go_ret;exact⟨rfl,af.o⟩
theorem Bh(g:Bool)(n d:ByteArray)(w:World)(hE:Env w)(hn:n.size<=140737488355328)(hd:d.size<=140737488355328):
 Calls prog 66 #[.agg #[.bool g,.string n,.string d]] w fun e w'=>e=.returned (.bool (As g n d))/\Below w.heap.size w w':=by
 cases h1:isN n with
 |false=>
  have e:As g n d=false:=by unfold As;rw[h1];rfl
  rw[e];exact MH g n d w hn h1
 |true=>
  cases h2:isN d with
  |false=>
   have e:As g n d=false:=by unfold As;rw[h1,h2];rfl
   rw[e];exact MI g n d w hn hd h1 h2
  |true=>
   obtain⟨a,ha,rfl⟩:=BT h1;obtain⟨b,hb,rfl⟩:=BT h2;rw[Fq g a b ha hb]
   by_cases hb0:b=0
   .subst hb0;simp only[decide_true,Bool.not_true,xw];exact MJ g a w ha
   rw[zD hb0,Bool.not_false,xF]
   by_cases ha0:a=0
   .rw[zE ha0];subst ha0;exact MK g b w hb hb0
   rw[zC ha0];exact PA g a b w hE ha hb ha0 hb0
theorem D8(g:Bool)(a b:Nat)(w:World)(hE:Env w)(ha:a<Lim)(hb:b<Lim)(al:b≠0):
 Calls prog 119 #[.bool g,.string (T (some a)),.string (T (some b))] w fun e w'=>e=.returned (.tuple #[qv (mkRat (sg g a) b),.int .i64 0])/\Below w.heap.size w w':=by
 have HV:=zh (UQ g a b al);obtain⟨G,ak⟩:∃G,G=Nat.gcd a b:=⟨_,rfl⟩;have ah:G<Lim:=by rw[ak];exact Hx ha hb
 have aj:G≠0:=by rw[ak];exact wJ (Nat.gcd_pos_of_pos_right a (by omega))
 have hG:Hid (Rx (some a) (some b)=some G/\Ry (some a) (some b)=0):=by
  have:=Hx ha hb;rw[ak];exact⟨by simp only[Rx,apO,MG,zE this],by simp only[Ry,apE,zE this]⟩
 have ae:Hid (TM (some a) (some G)=some (a/G)/\TN (some a) (some G)=0):=⟨zC aj,zC aj⟩;have af:Hid (TM (some b) (some G)=some (b/G)/\TN (some b) (some G)=0):=⟨zC aj,zC aj⟩;rw[<-ak]at HV;have z:=AM (a/G);generalize hx:a/G=x at HV ae z;generalize hy:b/G=y at HV af;replace hE:=zh hE;clear ak aj hx hy al;have key:(g=false)\/(g=true/\x=0)\/(g=true/\x≠0):=by cases g<;>simp<;>omega
 rcases key with rfl|⟨rfl,ag⟩|⟨rfl,ag⟩
 rotate_left
 .rw[zH ag]at HV z;replace ag:=zh ag;go_enter func119,ntmps119
  go_wp2_with fail
  refine(TP (some a) (some b) _ (hE.o.below ((zI _ w).alloc (zB _) _)) (An ha) (An hb)).q fun w1 ab=>?_;rw[hG.o.1,hG.o.2];have q1:=(B3.new w false ⟨#[]⟩ ⟨#[]⟩).below ab;have d:=zh (((zI _ w).alloc (zB _) _).trans (ab.mono (by simp)));have am:=q1.lt;replace q1:=zh q1;clear ab
  go_wp2_with fail
  refine(P7 (some a) (some G) _ (hE.o.below (d.o.alloc d.o.size _)) (An ha) (An ah)).q fun w2 h=>?_;rw[ae.o.1,ae.o.2];have q2:=(q1.o.alloc _).below h;have r2:=(B3.new w1 true ⟨#[]⟩ ⟨#[]⟩).below h;have aa:=zh ((d.o.alloc d.o.size _).trans (h.mono (by have:=d.o.size;simp;omega)));obtain⟨c1,c2,c3,c4,c5,c6⟩:=r2.facts;have an:=r2.lt;replace q2:=zh q2;replace r2:=zh r2;clear h q1
  go_wp2_with fail
  refine(P7 (some b) (some G) _ (hE.o.below (aa.o.setCell (by have:=d.o.size;simpa using this) _)) (An hb) (An ah)).q fun w3 s=>?_;rw[af.o.1,af.o.2];have q3:=(q2.o.other (p:=⟨w1.heap.size,1,none⟩) (by simp;omega) _).below s;have r3:=(r2.o.set1 (T (some x))).below s;have ai:=zh ((aa.o.setCell (p:=⟨w1.heap.size,1,none⟩) (by have:=d.o.size;simpa using this) _).trans (s.mono (by have:=aa.o.size;simpa using this)));have ad:=d.o.size;obtain⟨d1,d2,d3,d4,d5,d6⟩:=q3.facts;obtain⟨e1,e2,e3,e4,e5,e6⟩:=r3.facts;have ao:=r3.lt;clear s q2 r2 c1 c2 c3 c4 c5 c6;replace q3:=zh q3;replace r3:=zh r3;go_wp2;refine zX (v:=.tuple #[.agg #[.bool false,.string (T (some x)),.string (T (some y))],.int .i64 0]) (by simp[results,results119,go_sem,d1,d2,d3]) rfl ⟨by rw[HV.o];rfl,?_⟩
  repeat refine ze ?_ (by first|exact zB _|exact ad) _
  exact ai.o
 .rw[zD ag]at HV z;replace ag:=zh ag;go_enter func119,ntmps119
  go_wp2_with fail
  refine(TP (some a) (some b) _ (hE.o.below ((zI _ w).alloc (zB _) _)) (An ha) (An hb)).q fun w1 ab=>?_;rw[hG.o.1,hG.o.2];have q1:=(B3.new w false ⟨#[]⟩ ⟨#[]⟩).below ab;have d:=zh (((zI _ w).alloc (zB _) _).trans (ab.mono (by simp)));have am:=q1.lt;replace q1:=zh q1;clear ab
  go_wp2_with fail
  refine(P7 (some a) (some G) _ (hE.o.below (d.o.alloc d.o.size _)) (An ha) (An ah)).q fun w2 h=>?_;rw[ae.o.1,ae.o.2];have q2:=(q1.o.alloc _).below h;have r2:=(B3.new w1 true ⟨#[]⟩ ⟨#[]⟩).below h;have aa:=zh ((d.o.alloc d.o.size _).trans (h.mono (by have:=d.o.size;simp;omega)));obtain⟨c1,c2,c3,c4,c5,c6⟩:=r2.facts;have an:=r2.lt;replace q2:=zh q2;replace r2:=zh r2;clear h q1
  go_wp2_with fail
  refine(P7 (some b) (some G) _ (hE.o.below (aa.o.setCell (by have:=d.o.size;simpa using this) _)) (An hb) (An ah)).q fun w3 s=>?_;rw[af.o.1,af.o.2];have q3:=(q2.o.other (p:=⟨w1.heap.size,1,none⟩) (by simp;omega) _).below s;have r3:=(r2.o.set1 (T (some x))).below s;have ai:=zh ((aa.o.setCell (p:=⟨w1.heap.size,1,none⟩) (by have:=d.o.size;simpa using this) _).trans (s.mono (by have:=aa.o.size;simpa using this)));have ad:=d.o.size;obtain⟨d1,d2,d3,d4,d5,d6⟩:=q3.facts;obtain⟨e1,e2,e3,e4,e5,e6⟩:=r3.facts;have ao:=r3.lt;clear s q2 r2 c1 c2 c3 c4 c5 c6;replace q3:=zh q3;replace r3:=zh r3;go_wp2;refine zX (v:=.tuple #[.agg #[.bool true,.string (T (some x)),.string (T (some y))],.int .i64 0]) (by simp[results,results119,go_sem,d1,d2,d3]) rfl ⟨by rw[HV.o];rfl,?_⟩
  repeat refine ze ?_ (by first|exact zB _|exact ad) _
  exact ai.o
 go_enter func119,ntmps119
 go_wp2_with fail
 refine(TP (some a) (some b) _ (hE.o.below ((zI _ w).alloc (zB _) _)) (An ha) (An hb)).q fun w1 ab=>?_;rw[hG.o.1,hG.o.2];have q1:=(B3.new w false ⟨#[]⟩ ⟨#[]⟩).below ab;have d:=zh (((zI _ w).alloc (zB _) _).trans (ab.mono (by simp)));have am:=q1.lt;replace q1:=zh q1;clear ab
 go_wp2_with fail
 refine(P7 (some a) (some G) _ (hE.o.below (d.o.alloc d.o.size _)) (An ha) (An ah)).q fun w2 h=>?_;rw[ae.o.1,ae.o.2];have q2:=(q1.o.alloc _).below h;have r2:=(B3.new w1 false ⟨#[]⟩ ⟨#[]⟩).below h;have aa:=zh ((d.o.alloc d.o.size _).trans (h.mono (by have:=d.o.size;simp;omega)));obtain⟨c1,c2,c3,c4,c5,c6⟩:=r2.facts;have an:=r2.lt;replace q2:=zh q2;replace r2:=zh r2;clear h q1
 go_wp2_with fail
 refine(P7 (some b) (some G) _ (hE.o.below (aa.o.setCell (by have:=d.o.size;simpa using this) _)) (An hb) (An ah)).q fun w3 s=>?_;rw[af.o.1,af.o.2];have q3:=(q2.o.other (p:=⟨w1.heap.size,1,none⟩) (by simp;omega) _).below s;have r3:=(r2.o.set1 (T (some x))).below s;have ai:=zh ((aa.o.setCell (p:=⟨w1.heap.size,1,none⟩) (by have:=d.o.size;simpa using this) _).trans (s.mono (by have:=aa.o.size;simpa using this)));have ad:=d.o.size;obtain⟨d1,d2,d3,d4,d5,d6⟩:=q3.facts;obtain⟨e1,e2,e3,e4,e5,e6⟩:=r3.facts;have ao:=r3.lt;clear s q2 r2 c1 c2 c3 c4 c5 c6;replace q3:=zh q3;replace r3:=zh r3;go_wp2;refine zX (v:=.tuple #[.agg #[.bool false,.string (T (some x)),.string (T (some y))],.int .i64 0]) (by simp[results,results119,go_sem,d1,d2,d3]) rfl ⟨by rw[HV.o];rfl,?_⟩
 repeat refine ze ?_ (by first|exact zB _|exact ad) _
 exact ai.o
theorem Wp:(prog.info? 9).map (fun i=>(i.zero,i.size,i.bytes))=some (some (.string ⟨#[]⟩),1,16):=by kernel_rfl
def Ge(ks:List Nat):List Value:=ks.map fun k=>Value.string (T (some k))
def E5(W:World)(v:Value)(ks:List Nat):Prop:=∃g cap,v=.slice (some ⟨g,0,none⟩) ks.length cap/\g<W.heap.size/\∀i (h:i<ks.length),W.cell? ⟨g,i,none⟩=some (.string (T (some ks[i])))
theorem ML(ks:List Nat)(k:Nat):Ge ks++[Value.string (T (some k))]=Ge (ks++[k]):=by simp[Ge]
theorem Gf{B:Nat}{W:World}{v:Value}{ks:List Nat}(h:W.ownsRow B 9 1 v ks.length (Ge ks))(h0:ks≠[]):E5 W v ks:=by
 rcases id h.2 with⟨rfl,hx⟩|⟨g,cap,cur,rfl,hg,hh,hn,a,d,ht⟩
 .exact absurd (List.length_eq_zero_iff.1 hx) h0
 refine⟨g,cap,rfl,(Array.getElem?_eq_some_iff.1 hh).1,fun i hi=>?_⟩;rw[World.ownsRow.cellAt h i (by omega)];simp[Ge,hi]
def E6(W:World)(b:Nat)(ps:List (Nat×Nat)):Prop:=∀i (h:i<ps.length),W.cell? ⟨b,i*2,none⟩=some (.string (T (some ps[i].1)))/\W.cell? ⟨b,i*2+1,none⟩=some (.string (T (some ps[i].2)))
def Ee(ps:List (Nat×Nat)):List Nat:=ps.map fun p=>p.1*p.2
def Wq(w:World)(ps:List (Nat×Nat))(k:Nat)(v:Value)(wr:World):Prop :=
 wr.ownsRow w.heap.size 9 1 v (Ee (ps.take k)).length (Ge (Ee (ps.take k)))/\Below w.heap.size w wr
theorem Ie{B:Nat}{e:TypeId}{size:Nat}{w w':World}{v:Value}{n:Nat}{xs:List Value}(h:w.ownsRow B e size v n xs)(hb:Below w.heap.size w w'):w'.ownsRow B e size v n xs:=by
 obtain⟨h1,h2⟩:=h;refine⟨h1,?_⟩
 rcases h2 with h2|⟨g,cap,cur,hv,hg,hh,r⟩
 .exact Or.inl h2
 exact Or.inr ⟨g,cap,cur,hv,hg,by rw[hb.block g (Array.getElem?_eq_some_iff.1 hh).1];exact hh,r⟩
theorem MM(s:ByteArray):∀u∈[Value.string s],u.oneCell'=true:=by
 intro u hu;simp at hu;subst hu;rfl
theorem Dr(w:World)(hE:Env w)(b cap:Nat)(ps:List (Nat×Nat))(hb:b<w.heap.size)(hl:ps.length<=100)(hp:E6 w b ps)(hs:∀p∈ps,p.1<Lim/\p.2<Lim/\p.1*p.2<Lim):
 Calls prog 118 #[.slice (some ⟨b,0,none⟩) ps.length cap] w fun e w'=>(∃v,e=.returned v/\w'.ownsRow w.heap.size 9 1 v (Ee ps).length (Ge (Ee ps)))/\Below w.heap.size w w':=by
 obtain⟨i0,hi,ae,af,ag⟩:=vK Wp;have HP:=zh hp;have HS:=zh hs;replace hE:=zh hE;clear hp hs;go_enter func118,ntmps118;go_wp2
 go_loopw [3,10] (fun v i wr=>∃k:Nat,k<=ps.length/\i=.int .i64 (k:Int)/\Wq w ps k v wr) (fun _ i _=>ps.length-(intOf i).toNat)
 case atStart=>exact⟨0,zO _,rfl,zq _ _ _ _,zI _ _⟩
 case round=>
  obtain⟨k,hk,rfl,z1,z2⟩:=hrel;have ad:=z2.size
  by_cases hlt:k<ps.length
  .obtain ⟨x,hx⟩:∃x,x=ps[k].1:=⟨_,rfl⟩;obtain⟨y,hy⟩:∃y,y=ps[k].2:=⟨_,rfl⟩;obtain⟨h,s⟩:=HP.o k hlt;obtain⟨s1,s2,s3⟩:=HS.o _ (zQ hlt);rw[<-hx]at h s1 s3;rw[<-hy]at s s2 s3;have c1:=(z2.cell (p:=⟨b,k*2,none⟩) hb).trans h;have c2:=(z2.cell (p:=⟨b,k*2+1,none⟩) hb).trans s;have hM:Hid (Vk (some x) (some y)=some (x*y)/\Vl (some x) (some y)=0):=⟨by simp only[Vk,apO,MG,zE s3],by simp only[Vl,apE,zE s3]⟩
   have hN:Hid (Ee (ps.take (k+1))=Ee (ps.take k)++[x*y]):=by
    unfold Hid Ee;rw[zS hlt,yf,hx,hy];rfl
   have hL:Hid ((Ee (ps.take k)).length=k):=by unfold Hid Ee;simp;omega
   replace z1:=zh z1;replace z2:=zh z2;clear h s hx hy
   go_wp2_with fail
   refine(WQ (some x) (some y) _ (hE.o.below (z2.o.alloc ad _)) (An s1) (An s2)).q fun w1 a=>?_;rw[hM.o.1,hM.o.2];have aa:=zh ((z2.o.alloc ad _).trans (a.mono (by simp;omega)));have ho:Hid (w1.ownsRow w.heap.size 9 1 u3 (Ee (ps.take k)).length (Ge (Ee (ps.take k)))):=Ie (z1.o.alloc _) a;have ah:=aa.o.size;clear a z1 z2
   go_wp2_with (at_builtin;refine xT _ rfl _ _ 22 rfl w.heap.size 9 i0 (.string ⟨#[]⟩) 1 16 underlying22 hi ae af ag rfl (by decide) u3 (Ee (ps.take k)).length (Ge (Ee (ps.take k))) rfl (ho.o.alloc _) ⟨w1.heap.size,0,none⟩ 1 1 [.string (T (some (x*y)))] rfl rfl (Cx _ _ _) (MM _) (by have:=hL.o;unfold maxLen;omega) (by have:=hL.o;omega) (by simp;omega) ?_;intro v2 w2 d ab _)
   refine⟨⟨k+1,by omega,by go_num,?_,(aa.o.alloc (by omega) _).grown ab (by simp;omega) (fun b e=>(ho.o.lt b e).1)⟩,by simp only[intOf];omega⟩;rw[hN.o,<-ML,zY];exact d
  obtain rfl:k=ps.length:=by omega
  have e:ps.take ps.length=ps:=yK (zB _);rw[e]at z1;replace z1:=zh z1;replace z2:=zh z2;clear e;go_wp2;go_ret;exact⟨⟨_,rfl,z1.o⟩,z2.o⟩
theorem Bn{B:Nat}{a w:World}(h:Below B a w)(n:Nat):Below B a (w.drewN n):=⟨h.os,h.tape,h.output,h.size,h.block⟩
def SumBoxes(W:World)(B:Nat)(g1 g2:Bool)(a b c d:Nat):Prop :=
 B3 W B g1 (T (some a)) (T (some b))/\B3 W (B+1) g2 (T (some c)) (T (some d))/\B3 W (B+1+1) false ⟨#[]⟩ ⟨#[]⟩
abbrev DL(w:World)(g1 g2:Bool)(a b c d:Nat):World :=
 ((w.alloc (.cells #[.bool g1,.string (T (some a)),.string (T (some b))] 34)).alloc (.cells #[.bool g2,.string (T (some c)),.string (T (some d))] 34)).alloc (.cells #[.bool false,.string ⟨#[]⟩,.string ⟨#[]⟩] 34)
theorem SumBoxes.new(w:World)(g1 g2:Bool)(a b c d:Nat):SumBoxes (DL w g1 g2 a b c d) w.heap.size g1 g2 a b c d:=by
 have e1:(w.alloc (.cells #[.bool g1,.string (T (some a)),.string (T (some b))] 34)).heap.size=w.heap.size+1:=by simp
 have e2:((w.alloc (.cells #[.bool g1,.string (T (some a)),.string (T (some b))] 34)).alloc (.cells #[.bool g2,.string (T (some c)),.string (T (some d))] 34)).heap.size=w.heap.size+1+1:=by simp
 refine⟨((B3.new w _ _ _).alloc _).alloc _,?_,?_⟩
 .have h:=B3.new (w.alloc (.cells #[.bool g1,.string (T (some a)),.string (T (some b))] 34)) g2 (T (some c)) (T (some d));rw[e1]at h;exact h.alloc _
 have h:=B3.new ((w.alloc (.cells #[.bool g1,.string (T (some a)),.string (T (some b))] 34)).alloc (.cells #[.bool g2,.string (T (some c)),.string (T (some d))] 34)) false ⟨#[]⟩ ⟨#[]⟩;rw[e2]at h;exact h
theorem Cf(w:World)(g1 g2:Bool)(a b c d:Nat):Below w.heap.size w (DL w g1 g2 a b c d) :=
 (((zI _ w).alloc (zB _) _).alloc (by simp) _).alloc (by simp;omega) _
theorem SumBoxes.alloc{W:World}{B:Nat}{g1 g2:Bool}{a b c d:Nat}(h:SumBoxes W B g1 g2 a b c d)(o:Obj):SumBoxes (W.alloc o) B g1 g2 a b c d:=⟨h.1.alloc o,h.2.1.alloc o,h.2.2.alloc o⟩
theorem SumBoxes.below{W W':World}{B:Nat}{g1 g2:Bool}{a b c d:Nat}(h:SumBoxes W B g1 g2 a b c d)(hb:Below W.heap.size W W'):SumBoxes W' B g1 g2 a b c d:=⟨h.1.below hb,h.2.1.below hb,h.2.2.below hb⟩
theorem MN{W:World}{v:Value}{x y z:Nat}(h:E5 W v [x,y,z]):∃g cap,v=.slice (some ⟨g,0,none⟩) 3 cap/\W.cell? ⟨g,0,none⟩=some (.string (T (some x)))/\W.cell? ⟨g,1,none⟩=some (.string (T (some y)))/\W.cell? ⟨g,2,none⟩=some (.string (T (some z))):=by
 obtain⟨g,cap,rfl,hg,hc⟩:=h;exact⟨g,cap,rfl,hc 0 (by simp),hc 1 (by simp),hc 2 (by simp)⟩
theorem Vs{W:World}{v:Value}{x y:Nat}(h:E5 W v [x,y]):∃g cap,v=.slice (some ⟨g,0,none⟩) 2 cap/\g<W.heap.size/\W.cell? ⟨g,0,none⟩=some (.string (T (some x)))/\W.cell? ⟨g,1,none⟩=some (.string (T (some y))):=by
 obtain⟨g,cap,rfl,hg,hc⟩:=h;exact⟨g,cap,rfl,hg,hc 0 (by simp),hc 1 (by simp)⟩
theorem MO(W:World)(x1 y1 x2 y2 x3 y3:Nat):
 E6 (W.alloc (.cells #[.string (T (some x1)),.string (T (some y1)),.string (T (some x2)),.string (T (some y2)),.string (T (some x3)),.string (T (some y3))] 141)) W.heap.size [(x1,y1),(x2,y2),(x3,y3)]:=by
 intro i hi;have h:=zo W (.cells #[.string (T (some x1)),.string (T (some y1)),.string (T (some x2)),.string (T (some y2)),.string (T (some x3)),.string (T (some y3))] 141)
 match i,hi with
 |0,_=>simp only[World.cell?,h];exact⟨rfl,rfl⟩
 |1,_=>simp only[World.cell?,h];exact⟨rfl,rfl⟩
 |2,_=>simp only[World.cell?,h];exact⟨rfl,rfl⟩
 |n+3,hi=>simp at hi;omega
theorem Vt(W:World)(x1 y1 x2 y2:Nat):
 E6 (W.alloc (.cells #[.string (T (some x1)),.string (T (some y1)),.string (T (some x2)),.string (T (some y2))] 141)) W.heap.size [(x1,y1),(x2,y2)]:=by
 intro i hi;have h:=zo W (.cells #[.string (T (some x1)),.string (T (some y1)),.string (T (some x2)),.string (T (some y2))] 141)
 match i,hi with
 |0,_=>simp only[World.cell?,h];exact⟨rfl,rfl⟩
 |1,_=>simp only[World.cell?,h];exact⟨rfl,rfl⟩
 |n+2,hi=>simp at hi;omega
theorem PB(g1:Bool)(a b c d:Nat)(w:World)(hE:Env w)(ha:a<L1)(hb:b<L1)(hc:c<L1)(hd:d<L1)(aj:b≠0)(ak:d≠0):
 Calls prog 73 #[.agg #[.bool g1,.string (T (some a)),.string (T (some b))],.agg #[.bool g1,.string (T (some c)),.string (T (some d))]] w fun e w'=>e=.returned (.tuple #[qv (mkRat (sg g1 (a*d+c*b)) (b*d)),.int .i64 0])/\Below w.heap.size w w':=by
 have ag:b*d≠0:=xJ aj ak;have HS:=zh (And.intro (Ca ha hd) (And.intro (Ca hc hb) (And.intro (Ca hb hd) GS)))
 have HP:Hid (∀p∈[(a,d),(c,b),(b,d)],p.1<Lim/\p.2<Lim/\p.1*p.2<Lim):=by
  have:=HS.o;intro p hp;simp only[xP,xD,vS]at hp
  rcases hp with rfl|rfl|rfl
  .exact⟨AF ha,AF hd,by show a*d<Lim;omega⟩
  .exact⟨AF hc,AF hb,by show c*b<Lim;omega⟩
  exact⟨AF hb,AF hd,by show b*d<Lim;omega⟩
 have am:Hid (E6 ((DL w g1 g1 a b c d).alloc (.cells #[.string (T (some a)),.string (T (some d)),.string (T (some c)),.string (T (some b)),.string (T (some b)),.string (T (some d))] 141)) (w.heap.size+1+1+1) [(a,d),(c,b),(b,d)]):=by
  have:=MO (DL w g1 g1 a b c d) a d c b b d
  rwa [show (DL w g1 g1 a b c d).heap.size=w.heap.size+1+1+1 by simp]at this
 have aa:Hid (Below w.heap.size w ((DL w g1 g1 a b c d).alloc (.cells #[.string (T (some a)),.string (T (some d)),.string (T (some c)),.string (T (some b)),.string (T (some b)),.string (T (some d))] 141))):=(Cf w g1 g1 a b c d).alloc (Cf w g1 g1 a b c d).size _;have an:Hid (SumBoxes ((DL w g1 g1 a b c d).alloc (.cells #[.string (T (some a)),.string (T (some d)),.string (T (some c)),.string (T (some b)),.string (T (some b)),.string (T (some d))] 141)) w.heap.size g1 g1 a b c d):=(SumBoxes.new w g1 g1 a b c d).alloc _;replace hE:=zh hE;replace ag:=zh ag;clear ha hb hc hd aj ak
 have hA:Hid (Vi (some (a*d)) (some (c*b))=some (a*d+c*b)/\Vj (some (a*d)) (some (c*b))=0):=by
  have:=HS.o;have h:a*d+c*b<Lim:=by omega
  exact⟨by simp only[Vi,apO,MG,zE h],by simp only[Vj,apE,zE h]⟩
 go_enter func73,ntmps73
 go_wp2_with fail
 refine(Dr _ (hE.o.below aa.o) (w.heap.size+1+1+1) 3 [(a,d),(c,b),(b,d)] (by simp) (by simp) am.o HP.o).mono ?_;rintro e w1 ⟨⟨v,rfl,ho⟩,ad⟩;have ai:E5 w1 v [a*d,c*b,b*d]:=Gf ho (by simp);obtain⟨lg,lcap,rfl,l0,l1,l2⟩:=MN ai;have q1:=an.o.below ad;have ah:=aa.t ad;obtain⟨a1,a2,a3,a4,a5,a6⟩:=q1.1.facts;obtain⟨b1,b2,b3,b4,b5,b6⟩:=q1.2.1.facts;obtain⟨c1,c2,c3,c4,c5,c6⟩:=q1.2.2.facts;have ao:=q1.2.2.lt;replace q1:=zh q1;clear ad ai ho
 go_wp2_with fail
 show Code.wp _ _ _ _ _
 go_quiet (fail)
 obtain⟨W,hW⟩:∃W,W=w1.drewN nq:=⟨_,rfl⟩;have qW:Hid (SumBoxes W w.heap.size g1 g1 a b c d):=by rw[hW];exact q1.o
 have ab:Hid (Below w.heap.size w W):=by rw[hW];exact Bn ah.o nq
 rw[<-hW];clear a1 a2 a3 a4 a5 a6 b1 b2 b3 b4 b5 b6 c1 c2 c3 c4 c5 c6 ao l0 l1 l2 hW q1 ah;obtain⟨a1,a2,a3,a4,a5,a6⟩:=qW.o.1.facts;obtain⟨b1,b2,b3,b4,b5,b6⟩:=qW.o.2.1.facts
 go_wp2_with fail
 refine(WP (some (a*d)) (some (c*b)) _ (hE.o.below ab.o) (An (by have:=HS.o;omega)) (An (by have:=HS.o;omega))).q fun w2 ae=>?_;rw[hA.o.1,hA.o.2];have q2:=qW.o.below ae;have s:=ab.t ae;clear a1 a2 a3 a4 a5 a6 b1 b2 b3 b4 b5 b6 ae;obtain⟨a1,a2,a3,a4,a5,a6⟩:=q2.1.facts;obtain⟨b1,b2,b3,b4,b5,b6⟩:=q2.2.1.facts;replace q2:=zh q2
 go_wp2_with fail
 refine(D8 g1 (a*d+c*b) (b*d) _ (hE.o.below s.o) (by have:=HS.o;omega) (by have:=HS.o;omega) ag.o).q fun w3 af=>?_;have q3:=q2.o.below af;have al:=s.t af;clear a1 a2 a3 a4 a5 a6 b1 b2 b3 b4 b5 b6 af;obtain⟨c1,c2,c3,c4,c5,c6⟩:=q3.2.2.facts;replace q3:=zh q3;unfold qv;go_wp2;refine zX (v:=.tuple #[.agg #[.bool (decide ((mkRat (sg g1 (a*d+c*b)) (b*d)).num<0)),.string (T (some (mkRat (sg g1 (a*d+c*b)) (b*d)).num.natAbs)),.string (T (some (mkRat (sg g1 (a*d+c*b)) (b*d)).den))],.int .i64 0]) (by simp[results,results73,go_sem,c1,c2,c3]) rfl ⟨rfl,?_⟩
 repeat refine ze ?_ (by simp only[];omega) _
 exact al.o
theorem PC(g1 g2:Bool)(a b c d:Nat)(w:World)(hE:Env w)(ha:a<L1)(hb:b<L1)(hc:c<L1)(hd:d<L1)(al:b≠0)(am:d≠0)(hg:(g1==g2)=false)(hl:a*d<c*b):
 Calls prog 73 #[.agg #[.bool g1,.string (T (some a)),.string (T (some b))],.agg #[.bool g2,.string (T (some c)),.string (T (some d))]] w fun e w'=>e=.returned (.tuple #[qv (mkRat (sg g2 (c*b-a*d)) (b*d)),.int .i64 0])/\Below w.heap.size w w':=by
 have ah:b*d≠0:=xJ al am;have HS:=zh (And.intro (Ca ha hd) (And.intro (Ca hc hb) (And.intro (Ca hb hd) GS)))
 have HP:Hid (∀p∈[(a,d),(c,b),(b,d)],p.1<Lim/\p.2<Lim/\p.1*p.2<Lim):=by
  have:=HS.o;intro p hp;simp only[xP,xD,vS]at hp
  rcases hp with rfl|rfl|rfl
  .exact⟨AF ha,AF hd,by show a*d<Lim;omega⟩
  .exact⟨AF hc,AF hb,by show c*b<Lim;omega⟩
  exact⟨AF hb,AF hd,by show b*d<Lim;omega⟩
 have aq:Hid (E6 ((DL w g1 g2 a b c d).alloc (.cells #[.string (T (some a)),.string (T (some d)),.string (T (some c)),.string (T (some b)),.string (T (some b)),.string (T (some d))] 141)) (w.heap.size+1+1+1) [(a,d),(c,b),(b,d)]):=by
  have:=MO (DL w g1 g2 a b c d) a d c b b d
  rwa [show (DL w g1 g2 a b c d).heap.size=w.heap.size+1+1+1 by simp]at this
 have aa:Hid (Below w.heap.size w ((DL w g1 g2 a b c d).alloc (.cells #[.string (T (some a)),.string (T (some d)),.string (T (some c)),.string (T (some b)),.string (T (some b)),.string (T (some d))] 141))):=(Cf w g1 g2 a b c d).alloc (Cf w g1 g2 a b c d).size _;have ar:Hid (SumBoxes ((DL w g1 g2 a b c d).alloc (.cells #[.string (T (some a)),.string (T (some d)),.string (T (some c)),.string (T (some b)),.string (T (some b)),.string (T (some d))] 141)) w.heap.size g1 g2 a b c d):=(SumBoxes.new w g1 g2 a b c d).alloc _;replace hE:=zh hE;replace ah:=zh ah;clear ha hb hc hd al am;have ao:Hid (TO (some (a*d)) (some (c*b))=0):=rfl;have aj:Hid (TK (some (c*b)) (some (a*d))=some (c*b-a*d)/\TL (some (c*b)) (some (a*d))=0):=⟨zE (by omega),zE (by omega)⟩;have hC:Hid (Rz (some (a*d)) (some (c*b))=-1):=Cy hl;replace hl:=zh hl;go_enter func73,ntmps73
 go_wp2_with fail
 refine(Dr _ (hE.o.below aa.o) (w.heap.size+1+1+1) 3 [(a,d),(c,b),(b,d)] (by simp) (by simp) aq.o HP.o).mono ?_;rintro e w1 ⟨⟨v,rfl,ho⟩,ad⟩;have ak:E5 w1 v [a*d,c*b,b*d]:=Gf ho (by simp);obtain⟨lg,lcap,rfl,l0,l1,l2⟩:=MN ak;have q1:=ar.o.below ad;have ai:=aa.t ad;obtain⟨a1,a2,a3,a4,a5,a6⟩:=q1.1.facts;obtain⟨b1,b2,b3,b4,b5,b6⟩:=q1.2.1.facts;obtain⟨c1,c2,c3,c4,c5,c6⟩:=q1.2.2.facts;have au:=q1.2.2.lt;replace q1:=zh q1;clear ad ak ho
 go_wp2_with fail
 show Code.wp _ _ _ _ _
 go_quiet (fail)
 obtain⟨W,hW⟩:∃W,W=w1.drewN nq:=⟨_,rfl⟩;have qW:Hid (SumBoxes W w.heap.size g1 g2 a b c d):=by rw[hW];exact q1.o
 have ab:Hid (Below w.heap.size w W):=by rw[hW];exact Bn ai.o nq
 rw[<-hW];clear a1 a2 a3 a4 a5 a6 b1 b2 b3 b4 b5 b6 c1 c2 c3 c4 c5 c6 au l0 l1 l2 hW q1 ai;obtain⟨a1,a2,a3,a4,a5,a6⟩:=qW.o.1.facts;obtain⟨b1,b2,b3,b4,b5,b6⟩:=qW.o.2.1.facts
 go_wp2_with fail
 refine(Wn (some (a*d)) (some (c*b)) _ (hE.o.below ab.o) (An (by have:=HS.o;omega)) (An (by have:=HS.o;omega))).q fun w2 ae=>?_;rw[hC.o,ao.o];have q2:=qW.o.below ae;have h:=ab.t ae;clear a1 a2 a3 a4 a5 a6 b1 b2 b3 b4 b5 b6 ae;obtain⟨a1,a2,a3,a4,a5,a6⟩:=q2.1.facts;obtain⟨b1,b2,b3,b4,b5,b6⟩:=q2.2.1.facts;replace q2:=zh q2
 go_wp2_with fail
 refine(Wm (some (c*b)) (some (a*d)) _ (hE.o.below h.o) (An (by have:=HS.o;omega)) (An (by have:=HS.o;omega))).q fun w3 af=>?_;rw[aj.o.1,aj.o.2];have q3:=q2.o.below af;have s:=h.t af;clear a1 a2 a3 a4 a5 a6 b1 b2 b3 b4 b5 b6 af;obtain⟨a1,a2,a3,a4,a5,a6⟩:=q3.1.facts;obtain⟨b1,b2,b3,b4,b5,b6⟩:=q3.2.1.facts;replace q3:=zh q3
 go_wp2_with fail
 refine(D8 g2 (c*b-a*d) (b*d) _ (hE.o.below s.o) (by have:=HS.o;omega) (by have:=HS.o;omega) ah.o).q fun w4 ag=>?_;have q4:=q3.o.below ag;have an:=s.t ag;clear a1 a2 a3 a4 a5 a6 b1 b2 b3 b4 b5 b6 ag;obtain⟨c1,c2,c3,c4,c5,c6⟩:=q4.2.2.facts;replace q4:=zh q4;unfold qv;go_wp2;refine zX (v:=.tuple #[.agg #[.bool (decide ((mkRat (sg g2 (c*b-a*d)) (b*d)).num<0)),.string (T (some (mkRat (sg g2 (c*b-a*d)) (b*d)).num.natAbs)),.string (T (some (mkRat (sg g2 (c*b-a*d)) (b*d)).den))],.int .i64 0]) (by simp[results,results73,go_sem,c1,c2,c3]) rfl ⟨rfl,?_⟩
 repeat refine ze ?_ (by simp only[];omega) _
 exact an.o
theorem PD(g1 g2:Bool)(a b c d:Nat)(w:World)(hE:Env w)(ha:a<L1)(hb:b<L1)(hc:c<L1)(hd:d<L1)(al:b≠0)(an:d≠0)(hg:(g1==g2)=false)(hl:c*b<=a*d):
 Calls prog 73 #[.agg #[.bool g1,.string (T (some a)),.string (T (some b))],.agg #[.bool g2,.string (T (some c)),.string (T (some d))]] w fun e w'=>e=.returned (.tuple #[qv (mkRat (sg g1 (a*d-c*b)) (b*d)),.int .i64 0])/\Below w.heap.size w w':=by
 have ah:b*d≠0:=xJ al an;have HS:=zh (And.intro (Ca ha hd) (And.intro (Ca hc hb) (And.intro (Ca hb hd) GS)))
 have HP:Hid (∀p∈[(a,d),(c,b),(b,d)],p.1<Lim/\p.2<Lim/\p.1*p.2<Lim):=by
  have:=HS.o;intro p hp;simp only[xP,xD,vS]at hp
  rcases hp with rfl|rfl|rfl
  .exact⟨AF ha,AF hd,by show a*d<Lim;omega⟩
  .exact⟨AF hc,AF hb,by show c*b<Lim;omega⟩
  exact⟨AF hb,AF hd,by show b*d<Lim;omega⟩
 have ar:Hid (E6 ((DL w g1 g2 a b c d).alloc (.cells #[.string (T (some a)),.string (T (some d)),.string (T (some c)),.string (T (some b)),.string (T (some b)),.string (T (some d))] 141)) (w.heap.size+1+1+1) [(a,d),(c,b),(b,d)]):=by
  have:=MO (DL w g1 g2 a b c d) a d c b b d
  rwa [show (DL w g1 g2 a b c d).heap.size=w.heap.size+1+1+1 by simp]at this
 have aa:Hid (Below w.heap.size w ((DL w g1 g2 a b c d).alloc (.cells #[.string (T (some a)),.string (T (some d)),.string (T (some c)),.string (T (some b)),.string (T (some b)),.string (T (some d))] 141))):=(Cf w g1 g2 a b c d).alloc (Cf w g1 g2 a b c d).size _;have au:Hid (SumBoxes ((DL w g1 g2 a b c d).alloc (.cells #[.string (T (some a)),.string (T (some d)),.string (T (some c)),.string (T (some b)),.string (T (some b)),.string (T (some d))] 141)) w.heap.size g1 g2 a b c d):=(SumBoxes.new w g1 g2 a b c d).alloc _;replace hE:=zh hE;replace ah:=zh ah;clear ha hb hc hd al an;have aq:Hid (TO (some (a*d)) (some (c*b))=0):=rfl;have aj:Hid (TK (some (a*d)) (some (c*b))=some (a*d-c*b)/\TL (some (a*d)) (some (c*b))=0):=⟨zE (by omega),zE (by omega)⟩;obtain⟨cv,am,aw⟩:∃cv:Int,cv=Rz (some (a*d)) (some (c*b))/\0<=cv:=⟨_,rfl,by show 0<=B0 (a*d) (c*b);unfold B0;rw[zC (by omega)];split<;>omega⟩;have hC:Hid (Rz (some (a*d)) (some (c*b))=cv):=am.symm;clear am;replace hl:=zh hl;go_enter func73,ntmps73
 go_wp2_with fail
 refine(Dr _ (hE.o.below aa.o) (w.heap.size+1+1+1) 3 [(a,d),(c,b),(b,d)] (by simp) (by simp) ar.o HP.o).mono ?_;rintro e w1 ⟨⟨v,rfl,ho⟩,ad⟩;have ak:E5 w1 v [a*d,c*b,b*d]:=Gf ho (by simp);obtain⟨lg,lcap,rfl,l0,l1,l2⟩:=MN ak;have q1:=au.o.below ad;have ai:=aa.t ad;obtain⟨a1,a2,a3,a4,a5,a6⟩:=q1.1.facts;obtain⟨b1,b2,b3,b4,b5,b6⟩:=q1.2.1.facts;obtain⟨c1,c2,c3,c4,c5,c6⟩:=q1.2.2.facts;have av:=q1.2.2.lt;replace q1:=zh q1;clear ad ak ho
 go_wp2_with fail
 show Code.wp _ _ _ _ _
 go_quiet (fail)
 obtain⟨W,hW⟩:∃W,W=w1.drewN nq:=⟨_,rfl⟩;have qW:Hid (SumBoxes W w.heap.size g1 g2 a b c d):=by rw[hW];exact q1.o
 have ab:Hid (Below w.heap.size w W):=by rw[hW];exact Bn ai.o nq
 rw[<-hW];clear a1 a2 a3 a4 a5 a6 b1 b2 b3 b4 b5 b6 c1 c2 c3 c4 c5 c6 av l0 l1 l2 hW q1 ai;obtain⟨a1,a2,a3,a4,a5,a6⟩:=qW.o.1.facts;obtain⟨b1,b2,b3,b4,b5,b6⟩:=qW.o.2.1.facts
 go_wp2_with fail
 refine(Wn (some (a*d)) (some (c*b)) _ (hE.o.below ab.o) (An (by have:=HS.o;omega)) (An (by have:=HS.o;omega))).q fun w2 ae=>?_;rw[hC.o,aq.o];have q2:=qW.o.below ae;have h:=ab.t ae;clear a1 a2 a3 a4 a5 a6 b1 b2 b3 b4 b5 b6 ae;obtain⟨a1,a2,a3,a4,a5,a6⟩:=q2.1.facts;obtain⟨b1,b2,b3,b4,b5,b6⟩:=q2.2.1.facts;replace q2:=zh q2
 go_wp2_with fail
 refine(Wm (some (a*d)) (some (c*b)) _ (hE.o.below h.o) (An (by have:=HS.o;omega)) (An (by have:=HS.o;omega))).q fun w3 af=>?_;rw[aj.o.1,aj.o.2];have q3:=q2.o.below af;have s:=h.t af;clear a1 a2 a3 a4 a5 a6 b1 b2 b3 b4 b5 b6 af;obtain⟨a1,a2,a3,a4,a5,a6⟩:=q3.1.facts;obtain⟨b1,b2,b3,b4,b5,b6⟩:=q3.2.1.facts;replace q3:=zh q3
 go_wp2_with fail
 refine(D8 g1 (a*d-c*b) (b*d) _ (hE.o.below s.o) (by have:=HS.o;omega) (by have:=HS.o;omega) ah.o).q fun w4 ag=>?_;have q4:=q3.o.below ag;have ao:=s.t ag;clear a1 a2 a3 a4 a5 a6 b1 b2 b3 b4 b5 b6 ag;obtain⟨c1,c2,c3,c4,c5,c6⟩:=q4.2.2.facts;replace q4:=zh q4;unfold qv;go_wp2;refine zX (v:=.tuple #[.agg #[.bool (decide ((mkRat (sg g1 (a*d-c*b)) (b*d)).num<0)),.string (T (some (mkRat (sg g1 (a*d-c*b)) (b*d)).num.natAbs)),.string (T (some (mkRat (sg g1 (a*d-c*b)) (b*d)).den))],.int .i64 0]) (by simp[results,results73,go_sem,c1,c2,c3]) rfl ⟨rfl,?_⟩
 repeat refine ze ?_ (by simp only[];omega) _
 exact ao.o
theorem AP(W:World)(B b o:Nat)(x y z:Value)(h:b≠B):(((W.setCell ⟨B,0,none⟩ x).setCell ⟨B,1,none⟩ y).setCell ⟨B,2,none⟩ z).cell? ⟨b,o,none⟩=W.cell? ⟨b,o,none⟩ :=
 zR (w:=W) (a:=⟨b,o,none⟩) (((zg _ _ _ _ (by exact h)).trans (zg _ _ _ _ (by exact h))).trans (zg _ _ _ _ (by exact h)))
theorem GT(g1 g2:Bool)(a b c d:Nat)(w:World)(hE:Env w)(ha:a<Lim)(hb:b<Lim)(hc:c<Lim)(hd:d<Lim)(aa:a*c<Lim)(ad:b*d<Lim)(h0:b*d≠0):
 Calls prog 71 #[.agg #[.bool g1,.string (T (some a)),.string (T (some b))],.agg #[.bool g2,.string (T (some c)),.string (T (some d))]] w fun e w'=>e=.returned (.tuple #[qv (mkRat (sg (!(g1==g2)) (a*c)) (b*d)),.int .i64 0])/\Below w.heap.size w w':=by
 have HP:Hid (∀p∈[(a,c),(b,d)],p.1<Lim/\p.2<Lim/\p.1*p.2<Lim):=by
  intro p hp;simp only[xP,xD,vS]at hp
  rcases hp with rfl|rfl
  .exact⟨ha,hc,aa⟩
  exact⟨hb,hd,ad⟩
 have ai:Hid (E6 ((DL w g1 g2 a b c d).alloc (.cells #[.string (T (some a)),.string (T (some c)),.string (T (some b)),.string (T (some d))] 141)) (w.heap.size+1+1+1) [(a,c),(b,d)]):=by
  have:=Vt (DL w g1 g2 a b c d) a c b d
  rwa [show (DL w g1 g2 a b c d).heap.size=w.heap.size+1+1+1 by simp]at this
 have ae:Hid (Below w.heap.size w ((DL w g1 g2 a b c d).alloc (.cells #[.string (T (some a)),.string (T (some c)),.string (T (some b)),.string (T (some d))] 141))):=(Cf w g1 g2 a b c d).alloc (Cf w g1 g2 a b c d).size _;have aj:Hid (SumBoxes ((DL w g1 g2 a b c d).alloc (.cells #[.string (T (some a)),.string (T (some c)),.string (T (some b)),.string (T (some d))] 141)) w.heap.size g1 g2 a b c d):=(SumBoxes.new w g1 g2 a b c d).alloc _;replace hE:=zh hE;replace h0:=zh h0;replace aa:=zh aa;replace ad:=zh ad;clear ha hb hc hd;go_enter func71,ntmps71
 go_wp2_with fail
 refine(Dr _ (hE.o.below ae.o) (w.heap.size+1+1+1) 2 [(a,c),(b,d)] (by simp) (by simp) ai.o HP.o).mono ?_;rintro e w1 ⟨⟨v,rfl,ho⟩,af⟩;have ag:E5 w1 v [a*c,b*d]:=Gf ho (by simp);obtain⟨lg,lcap,rfl,ah,l0,l1⟩:=Vs ag
 have ak:w.heap.size+1+1+1<lg:=by
  have h1:=(ho.lt lg rfl).1;simp at h1;omega
 have q1:=aj.o.below af;have s:=ae.t af;obtain⟨a1,a2,a3,a4,a5,a6⟩:=q1.1.facts;obtain⟨b1,b2,b3,b4,b5,b6⟩:=q1.2.1.facts;obtain⟨c1,c2,c3,c4,c5,c6⟩:=q1.2.2.facts;have al:=q1.2.2.lt;replace q1:=zh q1;clear af ag ho
 go_wp2_with fail
 have hl:=fun W (h:Below w1.heap.size w1 W)=>D8 (!(g1==g2)) (a*c) (b*d) W (hE.o.below (s.o.trans (h.mono s.o.size))) aa.o ad.o h0.o;simp only[qv]at hl;have q1d:Hid (SumBoxes w1.drew w.heap.size g1 g2 a b c d):=q1.o
 go_region_held3 (fun w'=>w'.cell? ⟨w.heap.size,0,none⟩=some (.bool g1)/\w'.cell? ⟨w.heap.size+1,0,none⟩=some (.bool g2)/\w'.cell? ⟨lg,0,none⟩=some (.string (T (some (a*c))))/\w'.cell? ⟨lg,1,none⟩=some (.string (T (some (b*d))))) (first|exact⟨a1,b1,l0,l1⟩|exact⟨k1,k2,k3,k4⟩|exact⟨(AP _ _ _ _ _ _ _ (by omega)).trans k1,(AP _ _ _ _ _ _ _ (by omega)).trans k2,(AP _ _ _ _ _ _ _ (by omega)).trans k3,(AP _ _ _ _ _ _ _ (by omega)).trans k4⟩|go_keep)
  (first|(go_at_call 119;refine(hl _ ?_).mono ?_;(exact(zI _ _).drew);rintro e w2 ⟨rfl,ab⟩;have q2:=q1d.o.below ab;obtain⟨c1',c2',c3',c4',c5',c6'⟩:=q2.2.2.facts;have k1:=q2.1.facts.1;have k2:=q2.2.1.facts.1;have k3:=(ab.cell (p:=⟨lg,0,none⟩) ah).trans l0;have k4:=(ab.cell (p:=⟨lg,1,none⟩) ah).trans l1))
 go_wp2;refine zX (v:=.tuple #[.agg #[.bool (decide ((mkRat (sg (!(g1==g2)) (a*c)) (b*d)).num<0)),.string (T (some (mkRat (sg (!(g1==g2)) (a*c)) (b*d)).num.natAbs)),.string (T (some (mkRat (sg (!(g1==g2)) (a*c)) (b*d)).den))],.int .i64 0]) (by simp[results,results71,go_sem,c1',c2',c3']) rfl ⟨rfl,?_⟩
 repeat refine ze ?_ (by simp only[];omega) _
 exact(s.o.drew).trans (ab.mono s.o.size)
theorem TT(g:Bool)(n d:ByteArray)(w:World):
 Calls prog 124 #[.agg #[.bool g,.string n,.string d]] w fun e w'=>e=.returned (.agg #[.bool (!g&&!(n.toList==[48])),.string n,.string d])/\Below w.heap.size w w':=by
 cases g with
 |true=>
  go_enter func124,ntmps124;go_wp2;refine zX (v:=.agg #[.bool false,.string n,.string d]) (by simp[results,results124,go_sem]) rfl ⟨rfl,?_⟩
  repeat refine ze ?_ (by simp only[];omega) _
  exact((zI _ w).alloc (zB _) _).alloc (by simp) _
 |false=>
  cases hz:(n.toList==[48]) with
  |true=>
   go_enter func124,ntmps124;go_wp2;refine zX (v:=.agg #[.bool false,.string n,.string d]) (by simp[results,results124,go_sem]) rfl ⟨rfl,?_⟩
   repeat refine ze ?_ (by simp only[];omega) _
   exact((zI _ w).alloc (zB _) _).alloc (by simp) _
  |false=>
   go_enter func124,ntmps124;go_wp2;refine zX (v:=.agg #[.bool true,.string n,.string d]) (by simp[results,results124,go_sem]) rfl ⟨rfl,?_⟩
   repeat refine ze ?_ (by simp only[];omega) _
   exact((zI _ w).alloc (zB _) _).alloc (by simp) _
theorem UR(p q:Rat)(hp:ShortQ p)(hq:ShortQ q)(w:World)(hE:Env w):
 Calls prog 73 #[qv p,qv q] w fun e w'=>e=.returned (.tuple #[qv (p+q),.int .i64 0])/\Below w.heap.size w w':=by
 by_cases hg:decide (p.num<0)=decide (q.num<0)
 .have h:=PB (decide (p.num<0)) p.num.natAbs p.den q.num.natAbs q.den w hE hp.1 hp.2 hq.1 hq.2 p.den_nz q.den_nz;rw[KZ rfl hg rfl rfl,FM]at h;have e:qv q=.agg #[.bool (decide (p.num<0)),.string (T (some q.num.natAbs)),.string (T (some q.den))]:=by rw[hg];rfl
  rw[e];exact h
 have a:(decide (p.num<0)==decide (q.num<0))=false:=by rw[zJ];exact hg
 rcases xQ (p.num.natAbs*q.den) (q.num.natAbs*p.den) with hl|hl
 .have h:=PC (decide (p.num<0)) (decide (q.num<0)) p.num.natAbs p.den q.num.natAbs q.den w hE hp.1 hp.2 hq.1 hq.2 p.den_nz q.den_nz a hl;rw[La rfl rfl rfl rfl hg hl,FM]at h;exact h
 have h:=PD (decide (p.num<0)) (decide (q.num<0)) p.num.natAbs p.den q.num.natAbs q.den w hE hp.1 hp.2 hq.1 hq.2 p.den_nz q.den_nz a hl;rw[Lb rfl rfl rfl rfl hg hl,FM]at h;exact h
theorem PE(p q:Rat)(hp:ShortQ p)(hq:ShortQ q)(w:World)(hE:Env w):
 Calls prog 71 #[qv p,qv q] w fun e w'=>e=.returned (.tuple #[qv (p*q),.int .i64 0])/\Below w.heap.size w w':=by
 have h1:=Ca hp.1 hq.1;have h2:=Ca hp.2 hq.2;have h3:=GS;have h:=GT (decide (p.num<0)) (decide (q.num<0)) p.num.natAbs p.den q.num.natAbs q.den w hE (AF hp.1) (AF hp.2) (AF hq.1) (AF hq.2) (by omega) (by omega) (xJ p.den_nz q.den_nz);have e:=RD p q;rw[show (decide (p.num<0) != decide (q.num<0))=!(decide (p.num<0)==decide (q.num<0)) from rfl]at e;rw[e]at h;exact h
theorem MP(p q:Rat)(hp:ShortQ p)(hq:ShortQ q)(h0:q.num≠0)(w:World)(hE:Env w):
 Calls prog 71 #[qv p,.agg #[.bool (decide (q.num<0)),.string (T (some q.den)),.string (T (some q.num.natAbs))]] w fun e w'=>e=.returned (.tuple #[qv (p/q),.int .i64 0])/\Below w.heap.size w w':=by
 have h1:=Ca hp.1 hq.2;have h2:=Ca hp.2 hq.1;have h3:=GS;have h:=GT (decide (p.num<0)) (decide (q.num<0)) p.num.natAbs p.den q.den q.num.natAbs w hE (AF hp.1) (AF hp.2) (AF hq.2) (AF hq.1) (by omega) (by omega) (xJ p.den_nz (by omega));have e:=RE p q;rw[show (decide (p.num<0) != decide (q.num<0))=!(decide (p.num<0)==decide (q.num<0)) from rfl]at e;rw[e]at h;exact h
theorem RG(q:Rat):(.agg #[.bool (!decide (q.num<0)&&!((T (some q.num.natAbs)).toList==[48])),.string (T (some q.num.natAbs)),.string (T (some q.den))]:Value)=qv (-q):=by
 unfold qv;rw[AM];have e1:(-q).num=-q.num:=rfl;have e2:(-q).den=q.den:=rfl;rw[e1,e2,ws]
 have e3:(!decide (q.num<0)&&!decide (q.num.natAbs=0))=decide (-q.num<0):=by
  generalize q.num=z;rw[wD];simp;omega
 rw[e3]
theorem Wr(q:Rat)(w:World):
 Calls prog 124 #[qv q] w fun e w'=>e=.returned (qv (-q))/\Below w.heap.size w w':=by
 refine(TT (decide (q.num<0)) (T (some q.num.natAbs)) (T (some q.den)) w).q fun w' hb=>?_;exact⟨by rw[RG],hb⟩
theorem ShortQ.neg{q:Rat}(h:ShortQ q):ShortQ (-q):=⟨by show (-q.num).natAbs<L1;rw[ws];exact h.1,h.2⟩
abbrev TU(w:World)(g1 g2:Bool)(n1 d1 n2 d2:ByteArray):World :=
 ((w.alloc (.cells #[.bool g1,.string n1,.string d1] 34)).alloc (.cells #[.bool g2,.string n2,.string d2] 34)).alloc (.cells #[.bool false,.string ⟨#[]⟩,.string ⟨#[]⟩] 34)
def TwoBoxes(W:World)(B:Nat)(g1 g2:Bool)(n1 d1 n2 d2:ByteArray):Prop:=B3 W B g1 n1 d1/\B3 W (B+1) g2 n2 d2/\B3 W (B+1+1) false ⟨#[]⟩ ⟨#[]⟩
theorem TwoBoxes.new(w:World)(g1 g2:Bool)(n1 d1 n2 d2:ByteArray):TwoBoxes (TU w g1 g2 n1 d1 n2 d2) w.heap.size g1 g2 n1 d1 n2 d2:=by
 have e1:(w.alloc (.cells #[.bool g1,.string n1,.string d1] 34)).heap.size=w.heap.size+1:=by simp
 have e2:((w.alloc (.cells #[.bool g1,.string n1,.string d1] 34)).alloc (.cells #[.bool g2,.string n2,.string d2] 34)).heap.size=w.heap.size+1+1:=by simp
 refine⟨((B3.new w _ _ _).alloc _).alloc _,?_,?_⟩
 .have h:=B3.new (w.alloc (.cells #[.bool g1,.string n1,.string d1] 34)) g2 n2 d2;rw[e1]at h;exact h.alloc _
 have h:=B3.new ((w.alloc (.cells #[.bool g1,.string n1,.string d1] 34)).alloc (.cells #[.bool g2,.string n2,.string d2] 34)) false ⟨#[]⟩ ⟨#[]⟩;rw[e2]at h;exact h
theorem AI(w:World)(g1 g2:Bool)(n1 d1 n2 d2:ByteArray):Below w.heap.size w (TU w g1 g2 n1 d1 n2 d2) :=
 (((zI _ w).alloc (zB _) _).alloc (by simp) _).alloc (by simp;omega) _
theorem TwoBoxes.below{W W':World}{B:Nat}{g1 g2:Bool}{n1 d1 n2 d2:ByteArray}(h:TwoBoxes W B g1 g2 n1 d1 n2 d2)(hb:Below W.heap.size W W'):TwoBoxes W' B g1 g2 n1 d1 n2 d2:=⟨h.1.below hb,h.2.1.below hb,h.2.2.below hb⟩
theorem Vu(p q:Rat)(hp:ShortQ p)(hq:ShortQ q)(h0:q.num≠0)(w:World)(hE:Env w):
 Calls prog 139 #[qv p,qv q] w fun e w'=>e=.returned (.tuple #[qv (p/q),.int .i64 0])/\Below w.heap.size w w':=by
 have hc:=fun W (h:Env W)=>MP p q hp hq h0 W h;have aa:=zh (TwoBoxes.new w (decide (p.num<0)) (decide (q.num<0)) (T (some p.num.natAbs)) (T (some p.den)) (T (some q.num.natAbs)) (T (some q.den)));have a:=zh (AI w (decide (p.num<0)) (decide (q.num<0)) (T (some p.num.natAbs)) (T (some p.den)) (T (some q.num.natAbs)) (T (some q.den)));simp only[qv]at hc ⊢;replace hE:=zh hE;replace hc:=zh hc;clear hp hq h0;go_enter func139,ntmps139
 go_wp2_with fail
 refine(hc.o _ (hE.o.below a.o)).q fun w1 d=>?_;have q1:=aa.o.below d;have s:=a.t d;obtain⟨c1,c2,c3,c4,c5,c6⟩:=q1.2.2.facts;have ab:=q1.2.2.lt;clear d;replace q1:=zh q1;go_wp2;refine zX (v:=.tuple #[.agg #[.bool (decide ((p/q).num<0)),.string (T (some (p/q).num.natAbs)),.string (T (some (p/q).den))],.int .i64 0]) (by simp[results,results139,go_sem,c1,c2,c3]) rfl ⟨rfl,?_⟩
 repeat refine ze ?_ (by simp only[];omega) _
 exact s.o
theorem TwoBoxes.six{W:World}{B:Nat}{g1 g2:Bool}{n1 d1 n2 d2:ByteArray}(h:TwoBoxes W B g1 g2 n1 d1 n2 d2):
 W.cell? ⟨B,0,none⟩=some (.bool g1)/\W.cell? ⟨B,1,none⟩=some (.string n1)/\W.cell? ⟨B,2,none⟩=some (.string d1) /\
 W.cell? ⟨B+1,0,none⟩=some (.bool g2)/\W.cell? ⟨B+1,1,none⟩=some (.string n2)/\W.cell? ⟨B+1,2,none⟩=some (.string d2) :=
 ⟨h.1.facts.1,h.1.facts.2.1,h.1.facts.2.2.1,h.2.1.facts.1,h.2.1.facts.2.1,h.2.1.facts.2.2.1⟩
theorem TwoBoxes.six_set{W:World}{B:Nat}{g1 g2:Bool}{n1 d1 n2 d2:ByteArray}(h:TwoBoxes W B g1 g2 n1 d1 n2 d2)(x y z:Value):
 (((W.setCell ⟨B+1+1,0,none⟩ x).setCell ⟨B+1+1,1,none⟩ y).setCell ⟨B+1+1,2,none⟩ z).cell? ⟨B,0,none⟩=some (.bool g1)/\(((W.setCell ⟨B+1+1,0,none⟩ x).setCell ⟨B+1+1,1,none⟩ y).setCell ⟨B+1+1,2,none⟩ z).cell? ⟨B,1,none⟩=some (.string n1)/\(((W.setCell ⟨B+1+1,0,none⟩ x).setCell ⟨B+1+1,1,none⟩ y).setCell ⟨B+1+1,2,none⟩ z).cell? ⟨B,2,none⟩=some (.string d1) /\
 (((W.setCell ⟨B+1+1,0,none⟩ x).setCell ⟨B+1+1,1,none⟩ y).setCell ⟨B+1+1,2,none⟩ z).cell? ⟨B+1,0,none⟩=some (.bool g2)/\(((W.setCell ⟨B+1+1,0,none⟩ x).setCell ⟨B+1+1,1,none⟩ y).setCell ⟨B+1+1,2,none⟩ z).cell? ⟨B+1,1,none⟩=some (.string n2)/\(((W.setCell ⟨B+1+1,0,none⟩ x).setCell ⟨B+1+1,1,none⟩ y).setCell ⟨B+1+1,2,none⟩ z).cell? ⟨B+1,2,none⟩=some (.string d2):=by
 obtain⟨h1,h2,h3,h4,h5,h6⟩:=h.six;exact⟨(AP _ _ _ _ _ _ _ (by omega)).trans h1,(AP _ _ _ _ _ _ _ (by omega)).trans h2,(AP _ _ _ _ _ _ _ (by omega)).trans h3,(AP _ _ _ _ _ _ _ (by omega)).trans h4,(AP _ _ _ _ _ _ _ (by omega)).trans h5,(AP _ _ _ _ _ _ _ (by omega)).trans h6⟩
theorem Vv(g1 g2 g3:Bool)(n1 d1 n2 d2:ByteArray)(r:Bool)(n d:ByteArray)(E:Int)(w:World)(hE:Env w)
 (ho:∀W,Calls prog 124 #[.agg #[.bool g2,.string n2,.string d2]] W fun e w'=>e=.returned (.agg #[.bool g3,.string n2,.string d2])/\Below W.heap.size W w')
 (hc:∀W,Env W->Calls prog 73 #[.agg #[.bool g1,.string n1,.string d1],.agg #[.bool g3,.string n2,.string d2]] W fun e w'=>e=.returned (.tuple #[.agg #[.bool r,.string n,.string d],.int .i64 E])/\Below W.heap.size W w'):
 Calls prog 123 #[.agg #[.bool g1,.string n1,.string d1],.agg #[.bool g2,.string n2,.string d2]] w fun e w'=>e=.returned (.tuple #[.agg #[.bool r,.string n,.string d],.int .i64 E])/\Below w.heap.size w w':=by
 have h:=zh (TwoBoxes.new w g1 g2 n1 d1 n2 d2);have ae:=zh (AI w g1 g2 n1 d1 n2 d2);obtain⟨W0,a⟩:∃W0,W0=TU w g1 g2 n1 d1 n2 d2:=⟨_,rfl⟩;rw[<-a]at h ae;simp only[TU]at a;have q0d:Hid (TwoBoxes W0.drew w.heap.size g1 g2 n1 d1 n2 d2):=h.o;have ad:Hid (Below w.heap.size w W0.drew):=ae.o.drew;replace hE:=zh hE;replace a:=zh a;replace ho:=zh ho;replace hc:=zh hc;go_enter func123,ntmps123
 go_wp2_with fail
 rw[<-a.o];obtain⟨a1,a2,a3,b1,b2,b3⟩:=h.o.six
 go_region_held3 (fun w'=>w'.cell? ⟨w.heap.size,0,none⟩=some (.bool g1)/\w'.cell? ⟨w.heap.size,1,none⟩=some (.string n1)/\w'.cell? ⟨w.heap.size,2,none⟩=some (.string d1)/\w'.cell? ⟨w.heap.size+1,0,none⟩=some (.bool g2)/\w'.cell? ⟨w.heap.size+1,1,none⟩=some (.string n2)/\w'.cell? ⟨w.heap.size+1,2,none⟩=some (.string d2)) (first|(with_reducible exact h.o.six)|(with_reducible exact q0d.o.six)|(with_reducible exact q2.o.six)|(with_reducible exact q3.o.six)|(with_reducible exact q3.o.six_set _ _ _)|go_keep)
  (first
    |(go_at_call 124;refine(ho.o _).q fun w2 aa=>?_;have q2:=zh (q0d.o.below aa);have s:=ad.t aa;clear aa)
    |(go_at_call 73;refine(hc.o _ ?_).mono ?_;(exact hE.o.below s.o);rintro e w3 ⟨rfl,ab⟩;have q3:=zh (q2.o.below ab);obtain⟨c1,c2,c3,c4,c5,c6⟩:=q3.o.2.2.facts;have af:=s.t ab;clear ab))
 go_wp2;refine zX (v:=.tuple #[.agg #[.bool r,.string n,.string d],.int .i64 E]) (by simp[results,results123,go_sem,c1,c2,c3]) rfl ⟨rfl,?_⟩
 repeat refine ze ?_ (by simp only[];omega) _
 exact af.o
theorem Vw(p q:Rat)(hp:ShortQ p)(hq:ShortQ q)(w:World)(hE:Env w):
 Calls prog 123 #[qv p,qv q] w fun e w'=>e=.returned (.tuple #[qv (p-q),.int .i64 0])/\Below w.heap.size w w':=by
 have hc:=fun W (h:Env W)=>UR p (-q) hp hq.neg W h;rw[<-Rat.sub_eq_add_neg]at hc;have ho:=fun W=>Wr q W
 have e:qv (-q)=.agg #[.bool (decide ((-q).num<0)),.string (T (some q.num.natAbs)),.string (T (some q.den))]:=by
  unfold qv;rw[show (-q).num.natAbs=q.num.natAbs from ws _];rfl
 rw[e]at hc ho;exact Vv _ _ _ _ _ _ _ _ _ _ _ w hE ho hc
def B2(W:World)(b:Nat)(z:Bool)(f:Nat):Prop:=W.heap[b]? = some (.cells #[.bool z,.func (.func f) #[] #[]] 98 (0,0))
theorem B2.lt{W:World}{b:Nat}{z:Bool}{f:Nat}(h:B2 W b z f):b<W.heap.size:=(Array.getElem?_eq_some_iff.1 h).1
theorem B2.facts{W:World}{b:Nat}{z:Bool}{f:Nat}(h:B2 W b z f):W.cell? ⟨b,0,none⟩=some (.bool z)/\W.cell? ⟨b,1,none⟩=some (.func (.func f) #[] #[]):=by
 unfold B2 at h;simp[World.cell?,h]
theorem B2.below{W W':World}{b:Nat}{z:Bool}{f:Nat}(h:B2 W b z f)(hb:Below W.heap.size W W'):B2 W' b z f:=(hb.block b h.lt).trans h
def RunBoxes(W:World)(B:Nat)(z:Bool)(f:Nat)(g1 g2:Bool)(n1 d1 n2 d2:ByteArray):Prop :=
 B2 W B z f/\B3 W (B+1) g1 n1 d1/\B3 W (B+2) g2 n2 d2/\B3 W (B+3) false ⟨#[]⟩ ⟨#[]⟩
theorem RunBoxes.new(w:World)(z:Bool)(f:Nat)(g1 g2:Bool)(n1 d1 n2 d2:ByteArray):
 RunBoxes ((((w.alloc (.cells #[.bool z,.func (.func f) #[] #[]] 98)).alloc (.cells #[.bool g1,.string n1,.string d1] 34)).alloc (.cells #[.bool g2,.string n2,.string d2] 34)).alloc (.cells #[.bool false,.string ⟨#[]⟩,.string ⟨#[]⟩] 34)) w.heap.size z f g1 g2 n1 d1 n2 d2:=by
 have e1:(w.alloc (.cells #[.bool z,.func (.func f) #[] #[]] 98)).heap.size=w.heap.size+1:=by simp
 have e2:((w.alloc (.cells #[.bool z,.func (.func f) #[] #[]] 98)).alloc (.cells #[.bool g1,.string n1,.string d1] 34)).heap.size=w.heap.size+2:=by simp
 have e3:(((w.alloc (.cells #[.bool z,.func (.func f) #[] #[]] 98)).alloc (.cells #[.bool g1,.string n1,.string d1] 34)).alloc (.cells #[.bool g2,.string n2,.string d2] 34)).heap.size=w.heap.size+3:=by simp
 refine⟨?_,?_,?_,?_⟩
 .unfold B2;rw[yZ _ _ _ (by rw[e3];omega),yZ _ _ _ (by rw[e2];omega),yZ _ _ _ (by rw[e1];omega)];exact zo _ _
 .have h:=B3.new (w.alloc (.cells #[.bool z,.func (.func f) #[] #[]] 98)) g1 n1 d1;rw[e1]at h;exact(h.alloc _).alloc _
 .have h:=B3.new ((w.alloc (.cells #[.bool z,.func (.func f) #[] #[]] 98)).alloc (.cells #[.bool g1,.string n1,.string d1] 34)) g2 n2 d2;rw[e2]at h;exact h.alloc _
 have h:=B3.new (((w.alloc (.cells #[.bool z,.func (.func f) #[] #[]] 98)).alloc (.cells #[.bool g1,.string n1,.string d1] 34)).alloc (.cells #[.bool g2,.string n2,.string d2] 34)) false ⟨#[]⟩ ⟨#[]⟩;rw[e3]at h;exact h
theorem RunBoxes.below{W W':World}{B:Nat}{z:Bool}{f:Nat}{g1 g2:Bool}{n1 d1 n2 d2:ByteArray}(h:RunBoxes W B z f g1 g2 n1 d1 n2 d2)(hb:Below W.heap.size W W'):RunBoxes W' B z f g1 g2 n1 d1 n2 d2 :=
 ⟨h.1.below hb,h.2.1.below hb,h.2.2.1.below hb,h.2.2.2.below hb⟩
theorem A5(w:World)(o1 o2 o3 o4:Obj):Below w.heap.size w ((((w.alloc o1).alloc o2).alloc o3).alloc o4) :=
 ((((zI _ w).alloc (zB _) _).alloc (by simp) _).alloc (by simp;omega) _).alloc (by simp;omega) _
theorem Ws(z:Bool)(f:Nat)(g1 g2:Bool)(n1 d1 n2 d2:ByteArray)(w:World)(hE:Env w)(s1:n1.size<=140737488355328)(s2:d1.size<=140737488355328)(_s3:n2.size<=140737488355328)(_s4:d2.size<=140737488355328)(v1:As g1 n1 d1=false):
 Calls prog 72 #[.agg #[.bool z,.func (.func f) #[] #[]],.agg #[.bool g1,.string n1,.string d1],.agg #[.bool g2,.string n2,.string d2]] w fun e w'=>e=.returned (.tuple #[.agg #[.bool false,.string ⟨#[]⟩,.string ⟨#[]⟩],.int .i64 1])/\Below w.heap.size w w':=by
 have V1:=zh v1;clear v1;replace hE:=zh hE;go_enter func72,ntmps72
 go_wp2_with fail
 refine(Bh g1 n1 d1 _ (hE.o.below (A5 w _ _ _ _)) s1 s2).q fun w1 a=>?_;rw[V1.o];have q1:=(RunBoxes.new w z f g1 g2 n1 d1 n2 d2).below a;have d:=zh ((A5 w _ _ _ _).trans (a.mono (A5 w _ _ _ _).size));obtain⟨a1,a2⟩:=q1.1.facts;obtain⟨b1,b2,b3,b4,b5,b6⟩:=q1.2.1.facts;obtain⟨c1,c2,c3,c4,c5,c6⟩:=q1.2.2.1.facts;obtain⟨d1',d2',d3,d4,d5,d6⟩:=q1.2.2.2.facts;have h:=q1.2.2.2.lt;replace q1:=zh q1;clear a;go_wp2;refine zX (v:=.tuple #[.agg #[.bool false,.string ⟨#[]⟩,.string ⟨#[]⟩],.int .i64 1]) (by simp[results,results72,go_sem,d1',d2',d3]) rfl ⟨rfl,?_⟩
 repeat refine ze ?_ (by simp only[];omega) _
 exact d.o
theorem Wt(z:Bool)(f:Nat)(g1 g2:Bool)(n1 d1 n2 d2:ByteArray)(w:World)(hE:Env w)(s1:n1.size<=140737488355328)(s2:d1.size<=140737488355328)(s3:n2.size<=140737488355328)(s4:d2.size<=140737488355328)(v1:As g1 n1 d1=true)(v2:As g2 n2 d2=false):
 Calls prog 72 #[.agg #[.bool z,.func (.func f) #[] #[]],.agg #[.bool g1,.string n1,.string d1],.agg #[.bool g2,.string n2,.string d2]] w fun e w'=>e=.returned (.tuple #[.agg #[.bool false,.string ⟨#[]⟩,.string ⟨#[]⟩],.int .i64 1])/\Below w.heap.size w w':=by
 have V1:=zh v1;clear v1;have V2:=zh v2;clear v2;replace hE:=zh hE;go_enter func72,ntmps72
 go_wp2_with fail
 refine(Bh g1 n1 d1 _ (hE.o.below (A5 w _ _ _ _)) s1 s2).q fun w1 d=>?_;rw[V1.o];have q1:=(RunBoxes.new w z f g1 g2 n1 d1 n2 d2).below d;have a:=zh ((A5 w _ _ _ _).trans (d.mono (A5 w _ _ _ _).size));obtain⟨a1,a2⟩:=q1.1.facts;obtain⟨b1,b2,b3,b4,b5,b6⟩:=q1.2.1.facts;obtain⟨c1,c2,c3,c4,c5,c6⟩:=q1.2.2.1.facts;obtain⟨d1',d2',d3,d4,d5,d6⟩:=q1.2.2.2.facts;have aa:=q1.2.2.2.lt;replace q1:=zh q1;clear d
 go_wp2_with fail
 refine(Bh g2 n2 d2 _ (hE.o.below a.o) s3 s4).q fun w2 h=>?_;rw[V2.o];have q2:=q1.o.below h;have s:=a.t h;clear a1 a2 b1 b2 b3 b4 b5 b6 c1 c2 c3 c4 c5 c6 d1' d2' d3 d4 d5 d6 h q1;obtain⟨a1,a2⟩:=q2.1.facts;obtain⟨b1,b2,b3,b4,b5,b6⟩:=q2.2.1.facts;obtain⟨c1,c2,c3,c4,c5,c6⟩:=q2.2.2.1.facts;obtain⟨d1',d2',d3,d4,d5,d6⟩:=q2.2.2.2.facts;have ab:=q2.2.2.2.lt;replace q2:=zh q2;go_wp2;refine zX (v:=.tuple #[.agg #[.bool false,.string ⟨#[]⟩,.string ⟨#[]⟩],.int .i64 1]) (by simp[results,results72,go_sem,d1',d2',d3]) rfl ⟨rfl,?_⟩
 repeat refine ze ?_ (by simp only[];omega) _
 exact s.o
theorem Gg(z:Bool)(f:Nat)(g1 g2:Bool)(n1 d1 n2 d2:ByteArray)(w:World)(hE:Env w)(s1:n1.size<=140737488355328)(s2:d1.size<=140737488355328)(s3:n2.size<=140737488355328)(s4:d2.size<=140737488355328)(v1:As g1 n1 d1=true)(v2:As g2 n2 d2=true)(hz:z=false\/(z=true/\(n2.toList==[48])=false))(hl:¬(n1.size<=140/\d1.size<=140/\n2.size<=140/\d2.size<=140)):
 Calls prog 72 #[.agg #[.bool z,.func (.func f) #[] #[]],.agg #[.bool g1,.string n1,.string d1],.agg #[.bool g2,.string n2,.string d2]] w fun e w'=>e=.returned (.tuple #[.agg #[.bool false,.string ⟨#[]⟩,.string ⟨#[]⟩],.int .i64 2])/\Below w.heap.size w w':=by
 have V1:=zh v1;clear v1;have V2:=zh v2;clear v2
 rcases hz with rfl|⟨rfl,h0⟩
 all_goals
 have hk:140<n1.size\/(n1.size<=140/\140<d1.size)\/(n1.size<=140/\d1.size<=140/\140<n2.size)\/(n1.size<=140/\d1.size<=140/\n2.size<=140/\140<d2.size):=by omega
 clear hl
 rcases hk with l1|⟨l1,l2⟩|⟨l1,l2,l3⟩|⟨l1,l2,l3,l4⟩
 all_goals
  replace hE:=zh hE;go_enter func72,ntmps72
  go_wp2_with fail
  refine(Bh g1 n1 d1 _ (hE.o.below (A5 w _ _ _ _)) s1 s2).q fun w1 d=>?_;rw[V1.o];have q1:=(RunBoxes.new w _ f g1 g2 n1 d1 n2 d2).below d;have a:=zh ((A5 w _ _ _ _).trans (d.mono (A5 w _ _ _ _).size));obtain⟨a1,a2⟩:=q1.1.facts;obtain⟨b1,b2,b3,b4,b5,b6⟩:=q1.2.1.facts;obtain⟨c1,c2,c3,c4,c5,c6⟩:=q1.2.2.1.facts;obtain⟨d1',d2',d3,d4,d5,d6⟩:=q1.2.2.2.facts;have aa:=q1.2.2.2.lt;replace q1:=zh q1;clear d
  go_wp2_with fail
  refine(Bh g2 n2 d2 _ (hE.o.below a.o) s3 s4).q fun w2 h=>?_;rw[V2.o];have q2:=q1.o.below h;have s:=a.t h;clear a1 a2 b1 b2 b3 b4 b5 b6 c1 c2 c3 c4 c5 c6 d1' d2' d3 d4 d5 d6 h q1;obtain⟨a1,a2⟩:=q2.1.facts;obtain⟨b1,b2,b3,b4,b5,b6⟩:=q2.2.1.facts;obtain⟨c1,c2,c3,c4,c5,c6⟩:=q2.2.2.1.facts;obtain⟨d1',d2',d3,d4,d5,d6⟩:=q2.2.2.2.facts;have ab:=q2.2.2.2.lt;replace q2:=zh q2;go_wp2;refine zX (v:=.tuple #[.agg #[.bool false,.string ⟨#[]⟩,.string ⟨#[]⟩],.int .i64 2]) (by simp[results,results72,go_sem,d1',d2',d3]) rfl ⟨rfl,?_⟩
  repeat refine ze ?_ (by simp only[];omega) _
  exact s.o
theorem TV(g1 g2:Bool)(n1 d1 n2 d2:ByteArray)(w:World)(hE:Env w)(s1:n1.size<=140737488355328)(s2:d1.size<=140737488355328)(s3:n2.size<=140737488355328)(s4:d2.size<=140737488355328)(v1:As g1 n1 d1=true)(v2:As g2 n2 d2=true)(l1:n1.size<=140)(l2:d1.size<=140)(l3:n2.size<=140)(l4:d2.size<=140)(r:Bool)(n d:ByteArray)(E:Int)
 (hf:∀W,Env W->Calls prog 73 #[.agg #[.bool g1,.string n1,.string d1],.agg #[.bool g2,.string n2,.string d2]] W fun e w'=>e=.returned (.tuple #[.agg #[.bool r,.string n,.string d],.int .i64 E])/\Below W.heap.size W w'):
 Calls prog 72 #[.agg #[.bool false,.func (.func 73) #[] #[]],.agg #[.bool g1,.string n1,.string d1],.agg #[.bool g2,.string n2,.string d2]] w fun e w'=>e=.returned (.tuple #[.agg #[.bool r,.string n,.string d],.int .i64 E])/\Below w.heap.size w w':=by
 have V1:=zh v1;clear v1;have V2:=zh v2;clear v2;have HF:=zh hf;clear hf;replace hE:=zh hE;go_enter func72,ntmps72
 go_wp2_with fail
 refine(Bh g1 n1 d1 _ (hE.o.below (A5 w _ _ _ _)) s1 s2).q fun w1 s=>?_;rw[V1.o];have q1:=(RunBoxes.new w _ _ g1 g2 n1 d1 n2 d2).below s;have a:=zh ((A5 w _ _ _ _).trans (s.mono (A5 w _ _ _ _).size));obtain⟨a1,a2⟩:=q1.1.facts;obtain⟨b1,b2,b3,b4,b5,b6⟩:=q1.2.1.facts;obtain⟨c1,c2,c3,c4,c5,c6⟩:=q1.2.2.1.facts;obtain⟨d1',d2',d3,d4,d5,d6⟩:=q1.2.2.2.facts;have ae:=q1.2.2.2.lt;replace q1:=zh q1;clear s
 go_wp2_with fail
 refine(Bh g2 n2 d2 _ (hE.o.below a.o) s3 s4).q fun w2 aa=>?_;rw[V2.o];have q2:=q1.o.below aa;have h:=a.t aa;clear a1 a2 b1 b2 b3 b4 b5 b6 c1 c2 c3 c4 c5 c6 d1' d2' d3 d4 d5 d6 aa q1;obtain⟨a1,a2⟩:=q2.1.facts;obtain⟨b1,b2,b3,b4,b5,b6⟩:=q2.2.1.facts;obtain⟨c1,c2,c3,c4,c5,c6⟩:=q2.2.2.1.facts;obtain⟨d1',d2',d3,d4,d5,d6⟩:=q2.2.2.2.facts;have af:=q2.2.2.2.lt;replace q2:=zh q2
 go_wp2_with fail
 refine(HF.o _ (hE.o.below h.o)).q fun w3 ab=>?_;have q3:=q2.o.below ab;have ad:=h.t ab;clear a1 a2 b1 b2 b3 b4 b5 b6 c1 c2 c3 c4 c5 c6 d1' d2' d3 d4 d5 d6 ab q2;obtain⟨d1',d2',d3,d4,d5,d6⟩:=q3.2.2.2.facts;have ag:=q3.2.2.2.lt;replace q3:=zh q3;go_wp2;refine zX (v:=.tuple #[.agg #[.bool r,.string n,.string d],.int .i64 E]) (by simp[results,results72,go_sem,d1',d2',d3]) rfl ⟨rfl,?_⟩
 repeat refine ze ?_ (by simp only[];omega) _
 exact ad.o
theorem TW(g1 g2:Bool)(n1 d1 n2 d2:ByteArray)(w:World)(hE:Env w)(s1:n1.size<=140737488355328)(s2:d1.size<=140737488355328)(s3:n2.size<=140737488355328)(s4:d2.size<=140737488355328)(v1:As g1 n1 d1=true)(v2:As g2 n2 d2=true)(l1:n1.size<=140)(l2:d1.size<=140)(l3:n2.size<=140)(l4:d2.size<=140)(r:Bool)(n d:ByteArray)(E:Int)
 (hf:∀W,Env W->Calls prog 123 #[.agg #[.bool g1,.string n1,.string d1],.agg #[.bool g2,.string n2,.string d2]] W fun e w'=>e=.returned (.tuple #[.agg #[.bool r,.string n,.string d],.int .i64 E])/\Below W.heap.size W w'):
 Calls prog 72 #[.agg #[.bool false,.func (.func 123) #[] #[]],.agg #[.bool g1,.string n1,.string d1],.agg #[.bool g2,.string n2,.string d2]] w fun e w'=>e=.returned (.tuple #[.agg #[.bool r,.string n,.string d],.int .i64 E])/\Below w.heap.size w w':=by
 have V1:=zh v1;clear v1;have V2:=zh v2;clear v2;have HF:=zh hf;clear hf;replace hE:=zh hE;go_enter func72,ntmps72
 go_wp2_with fail
 refine(Bh g1 n1 d1 _ (hE.o.below (A5 w _ _ _ _)) s1 s2).q fun w1 s=>?_;rw[V1.o];have q1:=(RunBoxes.new w _ _ g1 g2 n1 d1 n2 d2).below s;have a:=zh ((A5 w _ _ _ _).trans (s.mono (A5 w _ _ _ _).size));obtain⟨a1,a2⟩:=q1.1.facts;obtain⟨b1,b2,b3,b4,b5,b6⟩:=q1.2.1.facts;obtain⟨c1,c2,c3,c4,c5,c6⟩:=q1.2.2.1.facts;obtain⟨d1',d2',d3,d4,d5,d6⟩:=q1.2.2.2.facts;have ae:=q1.2.2.2.lt;replace q1:=zh q1;clear s
 go_wp2_with fail
 refine(Bh g2 n2 d2 _ (hE.o.below a.o) s3 s4).q fun w2 aa=>?_;rw[V2.o];have q2:=q1.o.below aa;have h:=a.t aa;clear a1 a2 b1 b2 b3 b4 b5 b6 c1 c2 c3 c4 c5 c6 d1' d2' d3 d4 d5 d6 aa q1;obtain⟨a1,a2⟩:=q2.1.facts;obtain⟨b1,b2,b3,b4,b5,b6⟩:=q2.2.1.facts;obtain⟨c1,c2,c3,c4,c5,c6⟩:=q2.2.2.1.facts;obtain⟨d1',d2',d3,d4,d5,d6⟩:=q2.2.2.2.facts;have af:=q2.2.2.2.lt;replace q2:=zh q2
 go_wp2_with fail
 refine(HF.o _ (hE.o.below h.o)).q fun w3 ab=>?_;have q3:=q2.o.below ab;have ad:=h.t ab;clear a1 a2 b1 b2 b3 b4 b5 b6 c1 c2 c3 c4 c5 c6 d1' d2' d3 d4 d5 d6 ab q2;obtain⟨d1',d2',d3,d4,d5,d6⟩:=q3.2.2.2.facts;have ag:=q3.2.2.2.lt;replace q3:=zh q3;go_wp2;refine zX (v:=.tuple #[.agg #[.bool r,.string n,.string d],.int .i64 E]) (by simp[results,results72,go_sem,d1',d2',d3]) rfl ⟨rfl,?_⟩
 repeat refine ze ?_ (by simp only[];omega) _
 exact ad.o
theorem Lh(g1 g2:Bool)(n1 d1 n2 d2:ByteArray)(w:World)(hE:Env w)(s1:n1.size<=140737488355328)(s2:d1.size<=140737488355328)(s3:n2.size<=140737488355328)(s4:d2.size<=140737488355328)(v1:As g1 n1 d1=true)(v2:As g2 n2 d2=true)(l1:n1.size<=140)(l2:d1.size<=140)(l3:n2.size<=140)(l4:d2.size<=140)(r:Bool)(n d:ByteArray)(E:Int)
 (hf:∀W,Env W->Calls prog 71 #[.agg #[.bool g1,.string n1,.string d1],.agg #[.bool g2,.string n2,.string d2]] W fun e w'=>e=.returned (.tuple #[.agg #[.bool r,.string n,.string d],.int .i64 E])/\Below W.heap.size W w'):
 Calls prog 72 #[.agg #[.bool false,.func (.func 71) #[] #[]],.agg #[.bool g1,.string n1,.string d1],.agg #[.bool g2,.string n2,.string d2]] w fun e w'=>e=.returned (.tuple #[.agg #[.bool r,.string n,.string d],.int .i64 E])/\Below w.heap.size w w':=by
 have V1:=zh v1;clear v1;have V2:=zh v2;clear v2;have HF:=zh hf;clear hf;replace hE:=zh hE;go_enter func72,ntmps72
 go_wp2_with fail
 refine(Bh g1 n1 d1 _ (hE.o.below (A5 w _ _ _ _)) s1 s2).q fun w1 s=>?_;rw[V1.o];have q1:=(RunBoxes.new w _ _ g1 g2 n1 d1 n2 d2).below s;have a:=zh ((A5 w _ _ _ _).trans (s.mono (A5 w _ _ _ _).size));obtain⟨a1,a2⟩:=q1.1.facts;obtain⟨b1,b2,b3,b4,b5,b6⟩:=q1.2.1.facts;obtain⟨c1,c2,c3,c4,c5,c6⟩:=q1.2.2.1.facts;obtain⟨d1',d2',d3,d4,d5,d6⟩:=q1.2.2.2.facts;have ae:=q1.2.2.2.lt;replace q1:=zh q1;clear s
 go_wp2_with fail
 refine(Bh g2 n2 d2 _ (hE.o.below a.o) s3 s4).q fun w2 aa=>?_;rw[V2.o];have q2:=q1.o.below aa;have h:=a.t aa;clear a1 a2 b1 b2 b3 b4 b5 b6 c1 c2 c3 c4 c5 c6 d1' d2' d3 d4 d5 d6 aa q1;obtain⟨a1,a2⟩:=q2.1.facts;obtain⟨b1,b2,b3,b4,b5,b6⟩:=q2.2.1.facts;obtain⟨c1,c2,c3,c4,c5,c6⟩:=q2.2.2.1.facts;obtain⟨d1',d2',d3,d4,d5,d6⟩:=q2.2.2.2.facts;have af:=q2.2.2.2.lt;replace q2:=zh q2
 go_wp2_with fail
 refine(HF.o _ (hE.o.below h.o)).q fun w3 ab=>?_;have q3:=q2.o.below ab;have ad:=h.t ab;clear a1 a2 b1 b2 b3 b4 b5 b6 c1 c2 c3 c4 c5 c6 d1' d2' d3 d4 d5 d6 ab q2;obtain⟨d1',d2',d3,d4,d5,d6⟩:=q3.2.2.2.facts;have ag:=q3.2.2.2.lt;replace q3:=zh q3;go_wp2;refine zX (v:=.tuple #[.agg #[.bool r,.string n,.string d],.int .i64 E]) (by simp[results,results72,go_sem,d1',d2',d3]) rfl ⟨rfl,?_⟩
 repeat refine ze ?_ (by simp only[];omega) _
 exact ad.o
theorem TX(g1 g2:Bool)(n1 d1 n2 d2:ByteArray)(w:World)(hE:Env w)(s1:n1.size<=140737488355328)(s2:d1.size<=140737488355328)(s3:n2.size<=140737488355328)(s4:d2.size<=140737488355328)(v1:As g1 n1 d1=true)(v2:As g2 n2 d2=true)(h0:(n2.toList==[48])=false)(l1:n1.size<=140)(l2:d1.size<=140)(l3:n2.size<=140)(l4:d2.size<=140)(r:Bool)(n d:ByteArray)(E:Int)
 (hf:∀W,Env W->Calls prog 139 #[.agg #[.bool g1,.string n1,.string d1],.agg #[.bool g2,.string n2,.string d2]] W fun e w'=>e=.returned (.tuple #[.agg #[.bool r,.string n,.string d],.int .i64 E])/\Below W.heap.size W w'):
 Calls prog 72 #[.agg #[.bool true,.func (.func 139) #[] #[]],.agg #[.bool g1,.string n1,.string d1],.agg #[.bool g2,.string n2,.string d2]] w fun e w'=>e=.returned (.tuple #[.agg #[.bool r,.string n,.string d],.int .i64 E])/\Below w.heap.size w w':=by
 have V1:=zh v1;clear v1;have V2:=zh v2;clear v2;have HF:=zh hf;clear hf;replace hE:=zh hE;go_enter func72,ntmps72
 go_wp2_with fail
 refine(Bh g1 n1 d1 _ (hE.o.below (A5 w _ _ _ _)) s1 s2).q fun w1 s=>?_;rw[V1.o];have q1:=(RunBoxes.new w _ _ g1 g2 n1 d1 n2 d2).below s;have a:=zh ((A5 w _ _ _ _).trans (s.mono (A5 w _ _ _ _).size));obtain⟨a1,a2⟩:=q1.1.facts;obtain⟨b1,b2,b3,b4,b5,b6⟩:=q1.2.1.facts;obtain⟨c1,c2,c3,c4,c5,c6⟩:=q1.2.2.1.facts;obtain⟨d1',d2',d3,d4,d5,d6⟩:=q1.2.2.2.facts;have ae:=q1.2.2.2.lt;replace q1:=zh q1;clear s
 go_wp2_with fail
 refine(Bh g2 n2 d2 _ (hE.o.below a.o) s3 s4).q fun w2 aa=>?_;rw[V2.o];have q2:=q1.o.below aa;have h:=a.t aa;clear a1 a2 b1 b2 b3 b4 b5 b6 c1 c2 c3 c4 c5 c6 d1' d2' d3 d4 d5 d6 aa q1;obtain⟨a1,a2⟩:=q2.1.facts;obtain⟨b1,b2,b3,b4,b5,b6⟩:=q2.2.1.facts;obtain⟨c1,c2,c3,c4,c5,c6⟩:=q2.2.2.1.facts;obtain⟨d1',d2',d3,d4,d5,d6⟩:=q2.2.2.2.facts;have af:=q2.2.2.2.lt;replace q2:=zh q2
 go_wp2_with fail
 refine(HF.o _ (hE.o.below h.o)).q fun w3 ab=>?_;have q3:=q2.o.below ab;have ad:=h.t ab;clear a1 a2 b1 b2 b3 b4 b5 b6 c1 c2 c3 c4 c5 c6 d1' d2' d3 d4 d5 d6 ab q2;obtain⟨d1',d2',d3,d4,d5,d6⟩:=q3.2.2.2.facts;have ag:=q3.2.2.2.lt;replace q3:=zh q3;go_wp2;refine zX (v:=.tuple #[.agg #[.bool r,.string n,.string d],.int .i64 E]) (by simp[results,results72,go_sem,d1',d2',d3]) rfl ⟨rfl,?_⟩
 repeat refine ze ?_ (by simp only[];omega) _
 exact ad.o
theorem AW{g:Bool}{n d:ByteArray}(h:As g n d=true):n.size<=300/\d.size<=300:=by
 unfold As at h;simp only[yI]at h;exact⟨Bj h.1,Bj h.2.1⟩
theorem Bw{q:Rat}(h:ShortQ q):(T (some q.num.natAbs)).size<=140/\(T (some q.den)).size<=140:=⟨(Hy _).2 h.1,(Hy _).2 h.2⟩
theorem AZ{q:Rat}(h1:(T (some q.num.natAbs)).size<=140)(h2:(T (some q.den)).size<=140):ShortQ q:=⟨(Hy _).1 h1,(Hy _).1 h2⟩
theorem BR{q:Rat}(h:q≠0):q.num≠0:=fun e=>h (Rat.num_eq_zero.1 e)
theorem US(g1 g2:Bool)(n1 d1 n2 d2:ByteArray)(r:Bool)(n d:ByteArray)(E:Int)(w:World)(hE:Env w)
 (hr:∀W,Env W->Calls prog 72 #[.agg #[.bool false,.func (.func 73) #[] #[]],.agg #[.bool g1,.string n1,.string d1],.agg #[.bool g2,.string n2,.string d2]] W fun e w'=>e=.returned (.tuple #[.agg #[.bool r,.string n,.string d],.int .i64 E])/\Below W.heap.size W w'):
 Calls prog 29 #[.agg #[.bool g1,.string n1,.string d1],.agg #[.bool g2,.string n2,.string d2]] w fun e w'=>e=.returned (.tuple #[.agg #[.bool r,.string n,.string d],.int .i64 E])/\Below w.heap.size w w':=by
 have aa:=zh (TwoBoxes.new w g1 g2 n1 d1 n2 d2);have a:=zh (AI w g1 g2 n1 d1 n2 d2);replace hE:=zh hE;replace hr:=zh hr;go_enter func29,ntmps29
 go_wp2_with fail
 refine(hr.o _ (hE.o.below a.o)).q fun w1 h=>?_;have q1:=aa.o.below h;have s:=a.t h;obtain⟨c1,c2,c3,c4,c5,c6⟩:=q1.2.2.facts;have ab:=q1.2.2.lt;clear h;replace q1:=zh q1;go_wp2;refine zX (v:=.tuple #[.agg #[.bool r,.string n,.string d],.int .i64 E]) (by simp[results,results29,go_sem,c1,c2,c3]) rfl ⟨rfl,?_⟩
 repeat refine ze ?_ (by simp only[];omega) _
 exact s.o
theorem PF(p q:Rat)(hp:ShortQ p)(hq:ShortQ q)(w:World)(hE:Env w):
 Calls prog 29 #[qv p,qv q] w fun e w'=>e=.returned (.tuple #[qv (p+q),.int .i64 0])/\Below w.heap.size w w':=by
 have l1:=Bw hp;have l2:=Bw hq;refine US _ _ _ _ _ _ _ _ _ _ w hE fun W hW=>?_;exact TV _ _ _ _ _ _ W hW (by omega) (by omega) (by omega) (by omega) (AY hp.ok) (AY hq.ok) l1.1 l1.2 l2.1 l2.2 _ _ _ _ fun W2 h2=>UR p q hp hq W2 h2
theorem Wu(p q:Rat)(hp:OkQ p)(hq:OkQ q)(hl:¬(ShortQ p/\ShortQ q))(w:World)(hE:Env w):
 Calls prog 29 #[qv p,qv q] w fun e w'=>e=.returned (.tuple #[zv,.int .i64 2])/\Below w.heap.size w w':=by
 have v1:=AY hp;have v2:=AY hq;have l1:=AW v1;have l2:=AW v2;refine US _ _ _ _ _ _ false ⟨#[]⟩ ⟨#[]⟩ 2 w hE fun W hW=>?_;exact Gg false 73 _ _ _ _ _ _ W hW (by omega) (by omega) (by omega) (by omega) v1 v2 (.inl rfl) fun h=>hl ⟨AZ h.1 h.2.1,AZ h.2.2.1 h.2.2.2⟩
theorem UT(g1 g2:Bool)(n1 d1 n2 d2:ByteArray)(r:Bool)(n d:ByteArray)(E:Int)(w:World)(hE:Env w)
 (hr:∀W,Env W->Calls prog 72 #[.agg #[.bool false,.func (.func 123) #[] #[]],.agg #[.bool g1,.string n1,.string d1],.agg #[.bool g2,.string n2,.string d2]] W fun e w'=>e=.returned (.tuple #[.agg #[.bool r,.string n,.string d],.int .i64 E])/\Below W.heap.size W w'):
 Calls prog 75 #[.agg #[.bool g1,.string n1,.string d1],.agg #[.bool g2,.string n2,.string d2]] w fun e w'=>e=.returned (.tuple #[.agg #[.bool r,.string n,.string d],.int .i64 E])/\Below w.heap.size w w':=by
 have aa:=zh (TwoBoxes.new w g1 g2 n1 d1 n2 d2);have a:=zh (AI w g1 g2 n1 d1 n2 d2);replace hE:=zh hE;replace hr:=zh hr;go_enter func75,ntmps75
 go_wp2_with fail
 refine(hr.o _ (hE.o.below a.o)).q fun w1 h=>?_;have q1:=aa.o.below h;have s:=a.t h;obtain⟨c1,c2,c3,c4,c5,c6⟩:=q1.2.2.facts;have ab:=q1.2.2.lt;clear h;replace q1:=zh q1;go_wp2;refine zX (v:=.tuple #[.agg #[.bool r,.string n,.string d],.int .i64 E]) (by simp[results,results75,go_sem,c1,c2,c3]) rfl ⟨rfl,?_⟩
 repeat refine ze ?_ (by simp only[];omega) _
 exact s.o
theorem PG(p q:Rat)(hp:ShortQ p)(hq:ShortQ q)(w:World)(hE:Env w):
 Calls prog 75 #[qv p,qv q] w fun e w'=>e=.returned (.tuple #[qv (p-q),.int .i64 0])/\Below w.heap.size w w':=by
 have l1:=Bw hp;have l2:=Bw hq;refine UT _ _ _ _ _ _ _ _ _ _ w hE fun W hW=>?_;exact TW _ _ _ _ _ _ W hW (by omega) (by omega) (by omega) (by omega) (AY hp.ok) (AY hq.ok) l1.1 l1.2 l2.1 l2.2 _ _ _ _ fun W2 h2=>Vw p q hp hq W2 h2
theorem RH(p q:Rat)(hp:OkQ p)(hq:OkQ q)(hl:¬(ShortQ p/\ShortQ q))(w:World)(hE:Env w):
 Calls prog 75 #[qv p,qv q] w fun e w'=>e=.returned (.tuple #[zv,.int .i64 2])/\Below w.heap.size w w':=by
 have v1:=AY hp;have v2:=AY hq;have l1:=AW v1;have l2:=AW v2;refine UT _ _ _ _ _ _ false ⟨#[]⟩ ⟨#[]⟩ 2 w hE fun W hW=>?_;exact Gg false 123 _ _ _ _ _ _ W hW (by omega) (by omega) (by omega) (by omega) v1 v2 (.inl rfl) fun h=>hl ⟨AZ h.1 h.2.1,AZ h.2.2.1 h.2.2.2⟩
theorem UU(g1 g2:Bool)(n1 d1 n2 d2:ByteArray)(r:Bool)(n d:ByteArray)(E:Int)(w:World)(hE:Env w)
 (hr:∀W,Env W->Calls prog 72 #[.agg #[.bool false,.func (.func 71) #[] #[]],.agg #[.bool g1,.string n1,.string d1],.agg #[.bool g2,.string n2,.string d2]] W fun e w'=>e=.returned (.tuple #[.agg #[.bool r,.string n,.string d],.int .i64 E])/\Below W.heap.size W w'):
 Calls prog 28 #[.agg #[.bool g1,.string n1,.string d1],.agg #[.bool g2,.string n2,.string d2]] w fun e w'=>e=.returned (.tuple #[.agg #[.bool r,.string n,.string d],.int .i64 E])/\Below w.heap.size w w':=by
 have aa:=zh (TwoBoxes.new w g1 g2 n1 d1 n2 d2);have a:=zh (AI w g1 g2 n1 d1 n2 d2);replace hE:=zh hE;replace hr:=zh hr;go_enter func28,ntmps28
 go_wp2_with fail
 refine(hr.o _ (hE.o.below a.o)).q fun w1 h=>?_;have q1:=aa.o.below h;have s:=a.t h;obtain⟨c1,c2,c3,c4,c5,c6⟩:=q1.2.2.facts;have ab:=q1.2.2.lt;clear h;replace q1:=zh q1;go_wp2;refine zX (v:=.tuple #[.agg #[.bool r,.string n,.string d],.int .i64 E]) (by simp[results,results28,go_sem,c1,c2,c3]) rfl ⟨rfl,?_⟩
 repeat refine ze ?_ (by simp only[];omega) _
 exact s.o
theorem G5(p q:Rat)(hp:ShortQ p)(hq:ShortQ q)(w:World)(hE:Env w):
 Calls prog 28 #[qv p,qv q] w fun e w'=>e=.returned (.tuple #[qv (p*q),.int .i64 0])/\Below w.heap.size w w':=by
 have l1:=Bw hp;have l2:=Bw hq;refine UU _ _ _ _ _ _ _ _ _ _ w hE fun W hW=>?_;exact Lh _ _ _ _ _ _ W hW (by omega) (by omega) (by omega) (by omega) (AY hp.ok) (AY hq.ok) l1.1 l1.2 l2.1 l2.2 _ _ _ _ fun W2 h2=>PE p q hp hq W2 h2
theorem RI(p q:Rat)(hp:OkQ p)(hq:OkQ q)(hl:¬(ShortQ p/\ShortQ q))(w:World)(hE:Env w):
 Calls prog 28 #[qv p,qv q] w fun e w'=>e=.returned (.tuple #[zv,.int .i64 2])/\Below w.heap.size w w':=by
 have v1:=AY hp;have v2:=AY hq;have l1:=AW v1;have l2:=AW v2;refine UU _ _ _ _ _ _ false ⟨#[]⟩ ⟨#[]⟩ 2 w hE fun W hW=>?_;exact Gg false 71 _ _ _ _ _ _ W hW (by omega) (by omega) (by omega) (by omega) v1 v2 (.inl rfl) fun h=>hl ⟨AZ h.1 h.2.1,AZ h.2.2.1 h.2.2.2⟩
theorem UV(g1 g2:Bool)(n1 d1 n2 d2:ByteArray)(r:Bool)(n d:ByteArray)(E:Int)(w:World)(hE:Env w)
 (hr:∀W,Env W->Calls prog 72 #[.agg #[.bool true,.func (.func 139) #[] #[]],.agg #[.bool g1,.string n1,.string d1],.agg #[.bool g2,.string n2,.string d2]] W fun e w'=>e=.returned (.tuple #[.agg #[.bool r,.string n,.string d],.int .i64 E])/\Below W.heap.size W w'):
 Calls prog 94 #[.agg #[.bool g1,.string n1,.string d1],.agg #[.bool g2,.string n2,.string d2]] w fun e w'=>e=.returned (.tuple #[.agg #[.bool r,.string n,.string d],.int .i64 E])/\Below w.heap.size w w':=by
 have aa:=zh (TwoBoxes.new w g1 g2 n1 d1 n2 d2);have a:=zh (AI w g1 g2 n1 d1 n2 d2);replace hE:=zh hE;replace hr:=zh hr;go_enter func94,ntmps94
 go_wp2_with fail
 refine(hr.o _ (hE.o.below a.o)).q fun w1 h=>?_;have q1:=aa.o.below h;have s:=a.t h;obtain⟨c1,c2,c3,c4,c5,c6⟩:=q1.2.2.facts;have ab:=q1.2.2.lt;clear h;replace q1:=zh q1;go_wp2;refine zX (v:=.tuple #[.agg #[.bool r,.string n,.string d],.int .i64 E]) (by simp[results,results94,go_sem,c1,c2,c3]) rfl ⟨rfl,?_⟩
 repeat refine ze ?_ (by simp only[];omega) _
 exact s.o
theorem PH(p q:Rat)(hp:ShortQ p)(hq:ShortQ q)(h0:q≠0)(w:World)(hE:Env w):
 Calls prog 94 #[qv p,qv q] w fun e w'=>e=.returned (.tuple #[qv (p/q),.int .i64 0])/\Below w.heap.size w w':=by
 have l1:=Bw hp;have l2:=Bw hq;have hn:=BR h0;have hz:=AM q.num.natAbs;rw[zD (by omega)]at hz;refine UV _ _ _ _ _ _ _ _ _ _ w hE fun W hW=>?_;exact TX _ _ _ _ _ _ W hW (by omega) (by omega) (by omega) (by omega) (AY hp.ok) (AY hq.ok) hz l1.1 l1.2 l2.1 l2.2 _ _ _ _ fun W2 h2=>Vu p q hp hq hn W2 h2
theorem RJ(p q:Rat)(hp:OkQ p)(hq:OkQ q)(h0:q≠0)(hl:¬(ShortQ p/\ShortQ q))(w:World)(hE:Env w):
 Calls prog 94 #[qv p,qv q] w fun e w'=>e=.returned (.tuple #[zv,.int .i64 2])/\Below w.heap.size w w':=by
 have v1:=AY hp;have v2:=AY hq;have l1:=AW v1;have l2:=AW v2;have hn:=BR h0;have hz:=AM q.num.natAbs;rw[zD (by omega)]at hz;refine UV _ _ _ _ _ _ false ⟨#[]⟩ ⟨#[]⟩ 2 w hE fun W hW=>?_;exact Gg true 139 _ _ _ _ _ _ W hW (by omega) (by omega) (by omega) (by omega) v1 v2 (.inr ⟨rfl,hz⟩) fun h=>hl ⟨AZ h.1 h.2.1,AZ h.2.2.1 h.2.2.2⟩
theorem MQ(n:Int):Lib.trimPrefix (Lib.itoa n) [45]=Lib.decDigits n.natAbs:=by
 unfold Lib.itoa
 by_cases h:n<0
 .rw[zE h];simp[Lib.trimPrefix,Lib.hasPrefix]
 rw[zC h];have e:n.toNat=n.natAbs:=by omega
 rw[e];unfold Lib.trimPrefix Lib.hasPrefix;rw[zC];intro hp;have hd:=AL n.natAbs
 cases hl:Lib.decDigits n.natAbs with
 |nil=>exact AX _ hl
 |cons c r=>
  rw[hl]at hp hd;simp at hp;have:=(hd c (by simp)).1;rw[<-hp]at this;revert this;decide
theorem Li(n:Int)(h0:-9223372036854775808<=n)(h1:n<=9223372036854775807)(w:World)(hE:Env w):
 Calls prog 133 #[.int .i64 n] w fun e w'=>e=.returned (.string (T (some n.natAbs)))/\Below w.heap.size w w':=by
 have hi:=QZ n h0 h1 w hE.tab;have ht:=fun W=>Tryz.strings_TrimPrefix ⟨(Lib.itoa n).toArray⟩ ⟨#[45]⟩ W
 have e:(⟨(Lib.trimPrefix (⟨(Lib.itoa n).toArray⟩:ByteArray).data.toList (⟨#[45]⟩:ByteArray).data.toList).toArray⟩:ByteArray)=T (some n.natAbs):=by
  show (⟨(Lib.trimPrefix (Lib.itoa n) [45]).toArray⟩:ByteArray)=_
  rw[MQ];rfl
 rw[e]at ht;clear e;go_enter func133,ntmps133
 go_wp2_with fail
 refine hi.q fun w1 a=>?_;replace a:=zh a
 go_wp2_with fail
 refine(ht _).q fun w2 d=>?_;subst d;go_wp2;go_ret;exact⟨rfl,a.o⟩
theorem Bb(w:World)(o:Obj):Below w.heap.size w (w.alloc o):=(zI _ w).alloc (zB _) _
theorem GU{n:Int}(h0:-9223372036854775808<=n)(h1:n<=9223372036854775807):n.natAbs<L1:=by
 have h:10^20<=L1:=zW (by omega) (by rw[ES];omega);omega
theorem WR(m n:Int)(ad:-9223372036854775808<=m)(ae:m<=9223372036854775807)(af:-9223372036854775808<=n)(ag:n<=9223372036854775807)(h0:n≠0)(r:Bool)(x y:ByteArray)(w:World)(hE:Env w)
 (hl:∀W,Env W->Calls prog 119 #[.bool (!(decide (m<0)==decide (n<0))),.string (T (some m.natAbs)),.string (T (some n.natAbs))] W fun e w'=>e=.returned (.tuple #[.agg #[.bool r,.string x,.string y],.int .i64 0])/\Below W.heap.size W w'):
 Calls prog 81 #[.int .i64 m,.int .i64 n] w fun e w'=>e=.returned (.tuple #[.agg #[.bool r,.string x,.string y],.int .i64 0])/\Below w.heap.size w w':=by
 have hz:(n==0)=false:=by rw[zJ];exact h0
 have c1:=fun W (h:Env W)=>Li m ad ae W h;have c2:=fun W (h:Env W)=>Li n af ag W h;replace hE:=zh hE;replace hl:=zh hl;replace h0:=zh h0;clear ad ae af ag;go_enter func81,ntmps81
 go_wp2_with fail
 refine(c1 _ (hE.o.below (Bb _ _))).q fun w1 s=>?_;have q1:=(B3.new w false ⟨#[]⟩ ⟨#[]⟩).below s;have a:=zh ((Bb w (.cells #[.bool false,.string ⟨#[]⟩,.string ⟨#[]⟩] 34)).trans (s.mono (by simp)));clear s;replace q1:=zh q1
 go_wp2_with fail
 refine(c2 _ (hE.o.below a.o)).q fun w2 aa=>?_;have q2:=q1.o.below aa;have d:=a.t aa;clear aa;replace q2:=zh q2
 go_wp2_with fail
 refine(hl.o _ (hE.o.below d.o)).q fun w3 ab=>?_;have q3:=q2.o.below ab;have ah:=d.t ab;obtain⟨d1,d2,d3,d4,d5,d6⟩:=q3.facts;have ai:=q3.lt;clear ab;replace q3:=zh q3;go_wp2;refine zX (v:=.tuple #[.agg #[.bool r,.string x,.string y],.int .i64 0]) (by simp[results,results81,go_sem,d1,d2,d3]) rfl ⟨rfl,?_⟩
 repeat refine ze ?_ (by simp only[];omega) _
 exact ah.o
def ofQ(m n:Int):Rat:=mkRat (sg (!(decide (m<0)==decide (n<0))) m.natAbs) n.natAbs
theorem Jm(m n:Int)(a:-9223372036854775808<=m)(d:m<=9223372036854775807)(h:-9223372036854775808<=n)(s:n<=9223372036854775807)(h0:n≠0)(w:World)(hE:Env w):
 Calls prog 81 #[.int .i64 m,.int .i64 n] w fun e w'=>e=.returned (.tuple #[qv (ofQ m n),.int .i64 0])/\Below w.heap.size w w' :=
 WR m n a d h s h0 _ _ _ w hE fun W hW=>D8 _ m.natAbs n.natAbs W hW (AF (GU a d)) (AF (GU h s)) (by omega)
def REnv(w:World):Prop:=Env w/\∃m:Int,w.cell? ⟨5,0,none⟩=some (.int .i64 m)
theorem REnv.lt{w:World}(h:REnv w):5<w.heap.size:=by
 obtain⟨_,m,hm⟩:=h;exact xm w _ hm
theorem REnv.below{w w':World}(h:REnv w)(hb:Below w.heap.size w w'):REnv w':=by
 have hl:=h.lt;obtain⟨h1,m,hm⟩:=h;exact⟨h1.below hb,m,(hb.cell (p:=⟨5,0,none⟩) hl).trans hm⟩
end Nt
end
section
open Go.ChangeShapes Go.WideShapes Go.ChangeAt Go.RowKit Go.Shelf Go.Joins
namespace Nt
theorem Vx{k:IntKind}{n:Int}(h:(Lit.int k n).wf=true):k.min<=n/\n<=k.max:=by simpa [Lit.wf] using h
section
variable {H:Type} {enc:TypeId×Value->H} {w:World} {base:Nat} {spare:Nat->Bool} {held:Bool}
end
end Nt
end
section
open Go.ChangeShapes Go.WideShapes Go.ChangeAt Go.RowKit Go.Shelf Go.Joins Go.Deep
namespace Ci
open Nt
def DM(x:Int):Prop:=-9223372036854775808<=x/\x<=9223372036854775807
def lkD{H:Type}(x:Lk):DataW H:=.agg [.lit (.int .i64 x.1),.lit (.int .i64 x.2.1),.agg [.lit (.bool x.2.2.1),.lit (.string x.2.2.2.1.data.toList),.lit (.string x.2.2.2.2.data.toList)]]
def RK{H:Type}(x:ByteArray):DataW H:=.lit (.string x.data.toList)
def Vy{H:Type}(x:Int):DataW H:=.lit (.int .i64 x)
def Ka{H α:Type}(f:α->DataW H)(l:List α)(d:DataW H):Prop:=(d=.nil/\l=[])\/∃rest,d=.slice (l.map f) rest
section
variable {H:Type} {enc:TypeId×Value->H} {w:World} {base:Nat} {held:Bool}
theorem PI{b o k:Nat}:(⟨b,o,none⟩:Addr).add k=⟨b,o+k,none⟩:=by unfold Addr.add;split<;>simp_all
theorem i64_in{x:Int}(h:(Lit.int .i64 x).wf=true):DM x:=by
 have:=Vx h;exact this
theorem MR{fuel:Nat}{cs:List Value}{x:DataW H×List MemPlace}(h:DataW.trod enc prog w base (fun _=>true) held fuel 26 cs=some x):
 ∃(A:Option Addr)(cap:Nat)(l:List Int),cs=[.slice A l.length cap]/\Ka Vy l x.1/\InInt w A l/\∀y,y∈l->DM y:=by
 rcases open_slice1 underlying26 (by kernel_rfl) h with⟨h1,h2⟩|⟨a,len,cap,m,n,V,D,Pl,ad,hb,hl,hm,ab,hx,hi⟩
 .exact⟨none,0,[],h1,.inl ⟨by rw[h2],rfl⟩,fun h=>absurd h (by simp),fun y hy=>by cases hy⟩
 simp only[vI]at ab;subst ab
 have each:∀i,i<m->∃y:Int,V i=.int .i64 y/\D i=Vy y/\DM y:=by
  intro i ae;obtain⟨y,e1,e2,e3⟩:=DataW.trod_int underlying3 (hi i ae).2;exact⟨y,by simpa using e1,congrArg Prod.fst e2,i64_in e3⟩
 obtain⟨Y,hY⟩:=choose_lt each;refine⟨some a,m,(List.range len).map Y,by simpa using ad,.inr ⟨_,by rw[hx,xC];simp only[];congr 1;exact yX fun i d=>(hY i (by have:=List.mem_range.1 d;omega)).2.1⟩,fun h0=>?_,fun y hy=>?_⟩
 .simp only[zU,yV]at h0;have aa:=(hi 0 (by omega)).1;have af:=World.cell?_spot aa;obtain⟨b,o,s⟩:=a;have hs:s=none:=by simpa [Addr.add] using af
  subst hs;refine⟨b,o,rfl,?_,fun j hj=>?_⟩
  .have:=xm w _ aa
   simpa [PI] using this
  have ag:j<len:=by simpa using hj
  have hc:=(hi j (by omega)).1;rw[PI,(hY j (by omega)).1]at hc;simp only[yA,wP];exact hc
 obtain⟨i,d,rfl⟩:=List.mem_map.1 hy;exact(hY i (by have:=List.mem_range.1 d;omega)).2.2
theorem MS{fuel:Nat}{cs:List Value}{x:DataW H×List MemPlace}(h:DataW.trod enc prog w base (fun _=>true) held fuel 22 cs=some x):
 ∃(A:Option Addr)(cap:Nat)(l:List ByteArray),cs=[.slice A l.length cap]/\Ka RK l x.1/\InStr w A l:=by
 rcases open_slice1 underlying22 (by kernel_rfl) h with⟨h1,h2⟩|⟨a,len,cap,m,n,V,D,Pl,ab,hb,hl,hm,aa,hx,hi⟩
 .exact⟨none,0,[],h1,.inl ⟨by rw[h2],rfl⟩,fun h=>absurd h (by simp)⟩
 simp only[vI]at aa;subst aa
 have each:∀i,i<m->∃y:ByteArray,V i=.string y/\D i=RK y:=by
  intro i ae;obtain⟨y,e1,e2,_⟩:=DataW.trod_string underlying9 (hi i ae).2;exact⟨y,by simpa using e1,congrArg Prod.fst e2⟩
 obtain⟨Y,hY⟩:=choose_lt each;refine⟨some a,m,(List.range len).map Y,by simpa using ab,.inr ⟨_,by rw[hx,xC];simp only[];congr 1;exact yX fun i ad=>(hY i (by have:=List.mem_range.1 ad;omega)).2⟩,fun h0=>?_⟩;simp only[zU,yV]at h0;have d:=(hi 0 (by omega)).1;have af:=World.cell?_spot d;obtain⟨b,o,s⟩:=a;have hs:s=none:=by simpa [Addr.add] using af
 subst hs;refine⟨b,o,rfl,?_,fun j hj=>?_⟩
 .have:=xm w _ d
  simpa [PI] using this
 have ag:j<len:=by simpa using hj
 have hc:=(hi j (by omega)).1;rw[PI,(hY j (by omega)).1]at hc;simp only[yA,wP];exact hc
theorem RL:prog.cellsOf 55=5:=by kernel_rfl
theorem Jn{fuel:Nat}{cs:List Value}{x:DataW H×List MemPlace}(h:DataW.trod enc prog w base (fun _=>true) held fuel 23 cs=some x):
 ∃(A:Option Addr)(cap:Nat)(l:List Lk),cs=[.slice A l.length cap]/\Ka lkD l x.1/\InLk w A l/\(∀y,y∈l->DM y.1/\DM y.2.1)/\l.length<=cap:=by
 rcases open_slice underlying23 h with⟨h1,h2⟩|⟨a,len,cap,m,n,D,Pl,af,hb,hl,hm,ad,hx,hi⟩
 .exact⟨none,0,[],h1,.inl ⟨by rw[h2],rfl⟩,fun h=>absurd h (by simp),(fun y hy=>by cases hy),zB _⟩
 simp only[vI]at ad;subst ad
 have each:∀i,i<m->∃y:Lk,D i=lkD y/\(w.cell? (a.add (i*5))=some (.int .i64 y.1)/\w.cell? (a.add (i*5+1))=some (.int .i64 y.2.1)/\w.cell? (a.add (i*5+2))=some (.bool y.2.2.1)/\w.cell? (a.add (i*5+3))=some (.string y.2.2.2.1)/\w.cell? (a.add (i*5+4))=some (.string y.2.2.2.2))/\DM y.1/\DM y.2.1:=by
  intro i ag;obtain⟨cs',hc,ai⟩:=hi i ag;rw[RL]at hc;obtain⟨y0,y1,y2,n',hy,_,t0,t1,t2⟩:=trod_struct3 underlying55 ai;obtain⟨z0,z1,z2,n'',hz,_,u0,u1,u2⟩:=trod_struct3 underlying34 t2;obtain⟨_,ae,d⟩:=World.cells?_some hc
  match cs',ae with
  | [c0,c1,c2,c3,c4],_=>
    have g0:=d 0 (by omega);have g1:=d 1 (by omega);have g2:=d 2 (by omega);have g3:=d 3 (by omega);have g4:=d 4 (by omega);rw[Go.Deep.add_add]at g0 g1 g2 g3 g4;obtain⟨a0,e0,k0,f0⟩:=DataW.trod_int underlying3 t0;obtain⟨a1,e1,k1,f1⟩:=DataW.trod_int underlying3 t1;obtain⟨a2,e2,k2⟩:=DataW.trod_bool underlying4 u0;obtain⟨a3,e3,k3,_⟩:=DataW.trod_string underlying9 u1;obtain⟨a4,e4,k4,_⟩:=DataW.trod_string underlying9 u2;simp only[Prod.mk.injEq]at hy hz;have s1:prog.cellsOf 3=1:=by kernel_rfl
    have s2:prog.cellsOf 4=1:=by kernel_rfl
    have s3:prog.cellsOf 9=1:=by kernel_rfl
    have s4:prog.cellsOf 34=3:=by kernel_rfl
    have b0:c0=.int .i64 a0:=by simpa [s1,s2,s3,s4] using e0
    have b1:c1=.int .i64 a1:=by simpa [s1,s2,s3,s4] using e1
    have b2:c2=.bool a2:=by simpa [s1,s2,s3,s4] using e2
    have b3:c3=.string a3:=by simpa [s1,s2,s3,s4] using e3
    have b4:c4=.string a4:=by simpa [s1,s2,s3,s4] using e4
    subst b0 b1 b2 b3 b4;refine⟨(a0,a1,a2,a3,a4),?_,⟨by simpa using g0,by simpa using g1,by simpa using g2,by simpa using g3,by simpa using g4⟩,i64_in f0,i64_in f1⟩;rw[hy.1,k0,k1,hz,k2,k3,k4];rfl
 obtain⟨Y,hY⟩:=choose_lt each;refine⟨some a,m,(List.range len).map Y,by simpa using af,.inr ⟨_,by rw[hx,xC];simp only[];congr 1;exact yX fun i aa=>(hY i (by have:=List.mem_range.1 aa;omega)).1⟩,fun h0=>?_,fun y hy=>?_,by rw[zU,yV];omega⟩
 .simp only[zU,yV]at h0;have ab:=(hY 0 (by omega)).2.1.1;have ah:=World.cell?_spot ab;obtain⟨b,o,s⟩:=a;have hs:s=none:=by simpa [Addr.add] using ah
  subst hs;refine⟨b,o,rfl,?_,fun j hj=>?_⟩
  .have:=xm w _ ab
   simpa [PI] using this
  have aj:j<len:=by simpa using hj
  have hc:=(hY j (by omega)).2.1;simp only[PI]at hc;simp only[yA,wP];exact hc
 obtain⟨i,aa,rfl⟩:=List.mem_map.1 hy;exact(hY i (by have:=List.mem_range.1 aa;omega)).2.2
theorem RM{fuel:Nat}{cs:List Value}{x:DataW H×List MemPlace}(h:DataW.trod enc prog w base (fun _=>true) held fuel 23 cs=some x):
 ∃(A:Option Addr)(cap:Nat)(l:List Lk),cs=[.slice A l.length cap]/\Ka lkD l x.1/\InLk w A l/\∀y,y∈l->DM y.1/\DM y.2.1:=by
 obtain⟨A,cap,l,h1,h2,h3,h4,_⟩:=Jn h;exact⟨A,cap,l,h1,h2,h3,h4⟩
end
end Ci
end
section
open Go.RowKit Go.Shelf
namespace Ci
open Nt
theorem RN(s:ByteArray)(w:World)(hs:s.size<=9223372036854775807):
 Calls prog 63 #[.string s] w fun e w'=>e=.returned (.bool (A4 s))/\w'=w:=by
 have HB:=zh (fun(k:Nat) (h:k<s.size) (hb:¬B4 k s[k].toNat)=>Jh (s:=s) h hb);have HA:=zh (Ji (s:=s));go_enter func63,ntmps63;go_wp2
 go_loop [8] (fun i=>∃k:Nat,k<=s.size/\i=.int .i64 k/\Hid (∀i (h:i<s.size),i<k->B4 i s[i].toNat)) (fun i=>s.size-(intOf i).toNat)
 case atStart=>exact⟨0,zO _,rfl,fun i _ h=>absurd h (zi _)⟩
 case round=>
  obtain⟨k,hk,rfl,hI⟩:=hrel
  by_cases hlt:k<s.size
  .have hc:s[k].toNat<=255:=by have:=s[k].toNat_lt;omega
   have i0:(0:Int)<=(k:Int):=by omega
   have i1:(k:Int)<(s.size:Int):=by omega
   have HN:Hid (B4 k s[k].toNat->∀i (h:i<s.size),i<k+1->B4 i s[i].toNat):=fun h i hi h2=>by
    by_cases e:i=k
    .subst e;exact h
    exact hI.o i hi (by omega)
   have HB2:=zh (HB.o k hlt);clear hI
   by_cases e0:k=0
   .have b0:((k:Int)==0)=true:=by rw[yL];omega
    have b0n:((k:Int) != 0)=false:=by rw[yo];omega
    have b3:(k==0)=true:=by rw[yL];omega
    replace e0:=zh e0;have a:(s[k].toNat<=47/\0<=s[k].toNat)\/(48<=s[k].toNat/\s[k].toNat<=57)\/(58<=s[k].toNat/\s[k].toNat<=64)\/(65<=s[k].toNat/\s[k].toNat<=90)\/(91<=s[k].toNat/\s[k].toNat<=94)\/(95<=s[k].toNat/\s[k].toNat<=95)\/(96<=s[k].toNat/\s[k].toNat<=96)\/(97<=s[k].toNat/\s[k].toNat<=122)\/(123<=s[k].toNat/\s[k].toNat<=255):=by omega
    rcases a with⟨g1,g2⟩|⟨g1,g2⟩|⟨g1,g2⟩|⟨g1,g2⟩|⟨g1,g2⟩|⟨g1,g2⟩|⟨g1,g2⟩|⟨g1,g2⟩|⟨g1,g2⟩
    .have b1:((s[k].toNat:Int) != 95)=true:=by rw[zj];omega
     have b2:((s[k].toNat:Int)==95)=false:=by rw[zJ];omega
     have HR:Hid (A4 s=false):=HB2.o (by have:=e0.o;unfold B4;omega);clear HN HB2;go_wp2;go_ret;exact⟨Ag HR.o.symm,rfl⟩
    .have b1:((s[k].toNat:Int) != 95)=true:=by rw[zj];omega
     have b2:((s[k].toNat:Int)==95)=false:=by rw[zJ];omega
     have HR:Hid (A4 s=false):=HB2.o (by have:=e0.o;unfold B4;omega);clear HN HB2;go_wp2;go_ret;exact⟨Ag HR.o.symm,rfl⟩
    .have b1:((s[k].toNat:Int) != 95)=true:=by rw[zj];omega
     have b2:((s[k].toNat:Int)==95)=false:=by rw[zJ];omega
     have HR:Hid (A4 s=false):=HB2.o (by have:=e0.o;unfold B4;omega);clear HN HB2;go_wp2;go_ret;exact⟨Ag HR.o.symm,rfl⟩
    .have b1:((s[k].toNat:Int) != 95)=true:=by rw[zj];omega
     have b2:((s[k].toNat:Int)==95)=false:=by rw[zJ];omega
     have HR:=zh (HN.o (by have:=e0.o;unfold B4;omega));clear HN HB2;go_wp2;go_round
     case rel=>exact⟨k+1,by omega,by go_num,HR⟩
     case measure=>simp[intOf];omega
    .have b1:((s[k].toNat:Int) != 95)=true:=by rw[zj];omega
     have b2:((s[k].toNat:Int)==95)=false:=by rw[zJ];omega
     have c1:decide ((s[k].toNat:Int)<=90)=false:=by rw[zM];omega
     have d1:decide (s[k].toNat<=90)=false:=by rw[zM];omega
     have n1:¬((s[k].toNat:Int)<=90):=by omega
     have HR:Hid (A4 s=false):=HB2.o (by have:=e0.o;unfold B4;omega);clear HN HB2;go_wp2;go_ret;exact⟨Ag HR.o.symm,rfl⟩
    .have b1:((s[k].toNat:Int) != 95)=false:=by rw[yo];omega
     have b2:((s[k].toNat:Int)==95)=true:=by rw[yL];omega
     have c1:decide ((s[k].toNat:Int)<=90)=false:=by rw[zM];omega
     have d1:decide (s[k].toNat<=90)=false:=by rw[zM];omega
     have n1:¬((s[k].toNat:Int)<=90):=by omega
     have HR:Hid (A4 s=false):=HB2.o (by have:=e0.o;unfold B4;omega);clear HN HB2;go_wp2;go_ret;exact⟨Ag HR.o.symm,rfl⟩
    .have b1:((s[k].toNat:Int) != 95)=true:=by rw[zj];omega
     have b2:((s[k].toNat:Int)==95)=false:=by rw[zJ];omega
     have c1:decide ((s[k].toNat:Int)<=90)=false:=by rw[zM];omega
     have d1:decide (s[k].toNat<=90)=false:=by rw[zM];omega
     have n1:¬((s[k].toNat:Int)<=90):=by omega
     have HR:Hid (A4 s=false):=HB2.o (by have:=e0.o;unfold B4;omega);clear HN HB2;go_wp2;go_ret;exact⟨Ag HR.o.symm,rfl⟩
    .have b1:((s[k].toNat:Int) != 95)=true:=by rw[zj];omega
     have b2:((s[k].toNat:Int)==95)=false:=by rw[zJ];omega
     have c1:decide ((s[k].toNat:Int)<=90)=false:=by rw[zM];omega
     have d1:decide (s[k].toNat<=90)=false:=by rw[zM];omega
     have n1:¬((s[k].toNat:Int)<=90):=by omega
     have HR:=zh (HN.o (by have:=e0.o;unfold B4;omega));clear HN HB2;go_wp2;go_round
     case rel=>exact⟨k+1,by omega,by go_num,HR⟩
     case measure=>simp[intOf];omega
    have b1:((s[k].toNat:Int) != 95)=true:=by rw[zj];omega
    have b2:((s[k].toNat:Int)==95)=false:=by rw[zJ];omega
    have c0:decide ((s[k].toNat:Int)<=122)=false:=by rw[zM];omega
    have d0:decide (s[k].toNat<=122)=false:=by rw[zM];omega
    have n0:¬((s[k].toNat:Int)<=122):=by omega
    have c1:decide ((s[k].toNat:Int)<=90)=false:=by rw[zM];omega
    have d1:decide (s[k].toNat<=90)=false:=by rw[zM];omega
    have n1:¬((s[k].toNat:Int)<=90):=by omega
    have HR:Hid (A4 s=false):=HB2.o (by have:=e0.o;unfold B4;omega);clear HN HB2;go_wp2;go_ret;exact⟨Ag HR.o.symm,rfl⟩
   have b0:((k:Int)==0)=false:=by rw[zJ];omega
   have b0n:((k:Int) != 0)=true:=by rw[zj];omega
   have b3:(k==0)=false:=by rw[zJ];omega
   have a:(s[k].toNat<=47/\0<=s[k].toNat)\/(48<=s[k].toNat/\s[k].toNat<=57)\/(58<=s[k].toNat/\s[k].toNat<=64)\/(65<=s[k].toNat/\s[k].toNat<=90)\/(91<=s[k].toNat/\s[k].toNat<=94)\/(95<=s[k].toNat/\s[k].toNat<=95)\/(96<=s[k].toNat/\s[k].toNat<=96)\/(97<=s[k].toNat/\s[k].toNat<=122)\/(123<=s[k].toNat/\s[k].toNat<=255):=by omega
   rcases a with⟨g1,g2⟩|⟨g1,g2⟩|⟨g1,g2⟩|⟨g1,g2⟩|⟨g1,g2⟩|⟨g1,g2⟩|⟨g1,g2⟩|⟨g1,g2⟩|⟨g1,g2⟩
   .have b1:((s[k].toNat:Int) != 95)=true:=by rw[zj];omega
    have b2:((s[k].toNat:Int)==95)=false:=by rw[zJ];omega
    have HR:Hid (A4 s=false):=HB2.o (by unfold B4;omega);clear HN HB2;go_wp2;go_ret;exact⟨Ag HR.o.symm,rfl⟩
   .have b1:((s[k].toNat:Int) != 95)=true:=by rw[zj];omega
    have b2:((s[k].toNat:Int)==95)=false:=by rw[zJ];omega
    have HR:=zh (HN.o (by unfold B4;omega));clear HN HB2;go_wp2;go_round
    case rel=>exact⟨k+1,by omega,by go_num,HR⟩
    case measure=>simp[intOf];omega
   .have b1:((s[k].toNat:Int) != 95)=true:=by rw[zj];omega
    have b2:((s[k].toNat:Int)==95)=false:=by rw[zJ];omega
    have HR:Hid (A4 s=false):=HB2.o (by unfold B4;omega);clear HN HB2;go_wp2;go_ret;exact⟨Ag HR.o.symm,rfl⟩
   .have b1:((s[k].toNat:Int) != 95)=true:=by rw[zj];omega
    have b2:((s[k].toNat:Int)==95)=false:=by rw[zJ];omega
    have HR:=zh (HN.o (by unfold B4;omega));clear HN HB2;go_wp2;go_round
    case rel=>exact⟨k+1,by omega,by go_num,HR⟩
    case measure=>simp[intOf];omega
   .have b1:((s[k].toNat:Int) != 95)=true:=by rw[zj];omega
    have b2:((s[k].toNat:Int)==95)=false:=by rw[zJ];omega
    have c1:decide ((s[k].toNat:Int)<=90)=false:=by rw[zM];omega
    have d1:decide (s[k].toNat<=90)=false:=by rw[zM];omega
    have n1:¬((s[k].toNat:Int)<=90):=by omega
    have HR:Hid (A4 s=false):=HB2.o (by unfold B4;omega);clear HN HB2;go_wp2;go_ret;exact⟨Ag HR.o.symm,rfl⟩
   .have b1:((s[k].toNat:Int) != 95)=false:=by rw[yo];omega
    have b2:((s[k].toNat:Int)==95)=true:=by rw[yL];omega
    have c1:decide ((s[k].toNat:Int)<=90)=false:=by rw[zM];omega
    have d1:decide (s[k].toNat<=90)=false:=by rw[zM];omega
    have n1:¬((s[k].toNat:Int)<=90):=by omega
    have HR:=zh (HN.o (by unfold B4;omega));clear HN HB2;go_wp2;go_round
    case rel=>exact⟨k+1,by omega,by go_num,HR⟩
    case measure=>simp[intOf];omega
   .have b1:((s[k].toNat:Int) != 95)=true:=by rw[zj];omega
    have b2:((s[k].toNat:Int)==95)=false:=by rw[zJ];omega
    have c1:decide ((s[k].toNat:Int)<=90)=false:=by rw[zM];omega
    have d1:decide (s[k].toNat<=90)=false:=by rw[zM];omega
    have n1:¬((s[k].toNat:Int)<=90):=by omega
    have HR:Hid (A4 s=false):=HB2.o (by unfold B4;omega);clear HN HB2;go_wp2;go_ret;exact⟨Ag HR.o.symm,rfl⟩
   .have b1:((s[k].toNat:Int) != 95)=true:=by rw[zj];omega
    have b2:((s[k].toNat:Int)==95)=false:=by rw[zJ];omega
    have c1:decide ((s[k].toNat:Int)<=90)=false:=by rw[zM];omega
    have d1:decide (s[k].toNat<=90)=false:=by rw[zM];omega
    have n1:¬((s[k].toNat:Int)<=90):=by omega
    have HR:=zh (HN.o (by unfold B4;omega));clear HN HB2;go_wp2;go_round
    case rel=>exact⟨k+1,by omega,by go_num,HR⟩
    case measure=>simp[intOf];omega
   have b1:((s[k].toNat:Int) != 95)=true:=by rw[zj];omega
   have b2:((s[k].toNat:Int)==95)=false:=by rw[zJ];omega
   have c0:decide ((s[k].toNat:Int)<=122)=false:=by rw[zM];omega
   have d0:decide (s[k].toNat<=122)=false:=by rw[zM];omega
   have n0:¬((s[k].toNat:Int)<=122):=by omega
   have c1:decide ((s[k].toNat:Int)<=90)=false:=by rw[zM];omega
   have d1:decide (s[k].toNat<=90)=false:=by rw[zM];omega
   have n1:¬((s[k].toNat:Int)<=90):=by omega
   have HR:Hid (A4 s=false):=HB2.o (by unfold B4;omega);clear HN HB2;go_wp2;go_ret;exact⟨Ag HR.o.symm,rfl⟩
  obtain rfl:k=s.size:=by omega
  have HE:Hid (A4 s=(decide (0<s.size)&&decide (s.size<=24))):=HA.o fun i h=>hI.o i h h
  have q0:s.toList.isEmpty=decide (s.size=0):=by
   rw[yP,xM]
   cases s.data.toList<;>simp
  clear hI
  by_cases h0:s.size=0
  .have q1:s.toList=[]:=by simpa [h0] using q0
   have q2:(!s.toList.isEmpty)=false:=by rw[q0,zH h0];rfl
   clear q0;go_wp2;go_ret;exact⟨Ag (by rw[HE.o,zD (by omega)];rfl),rfl⟩
  have q2:(!s.toList.isEmpty)=true:=by rw[q0,zD h0];rfl
  have q1:¬s.toList=[]:=fun e=>by rw[e]at q0;rw[zD h0]at q0;cases q0
  clear q0
  by_cases h24:s.size<=24
  .go_wp2;go_ret;exact⟨Ag (by rw[HE.o,zH (by omega:0<s.size),zH h24,zH (by omega:(s.size:Int)<=24)];rfl),rfl⟩
  go_wp2;go_ret;exact⟨Ag (by rw[HE.o,zH (by omega:0<s.size),zD h24,zD (by omega:¬(s.size:Int)<=24)];rfl),rfl⟩
theorem TY(s:ByteArray)(w:World)(hs:s.size<=9223372036854775807):
 Calls prog 96 #[.string s] w fun e w'=>e=.returned (.bool (A4 s))/\w'=w:=by
 have HB:=zh (fun(k:Nat) (h:k<s.size) (hb:¬B4 k s[k].toNat)=>Jh (s:=s) h hb);have HA:=zh (Ji (s:=s))
 by_cases d:s.size<1\/24<s.size
 .have HR:Hid (A4 s=false):=by
   unfold Hid A4
   rcases d with h|h
   .rw[zD (by omega:¬0<s.size)];simp
   rw[zD (by omega:¬s.size<=24)];simp
  rcases d with h|h
  .go_enter func96,ntmps96;go_wp2;go_ret;exact⟨Ag HR.o.symm,rfl⟩
  have h1:¬s.size<1:=by omega
  have h2:decide ((s.size:Int)<1)=false:=by rw[zM];omega
  go_enter func96,ntmps96;go_wp2;go_ret;exact⟨Ag HR.o.symm,rfl⟩
 have h1:1<=s.size:=by omega
 have h2:s.size<=24:=by omega
 have h3:decide ((s.size:Int)<1)=false:=by rw[zM];omega
 have h4:decide (24<(s.size:Int))=false:=by rw[zM];omega
 clear d;go_enter func96,ntmps96;go_wp2
 go_loop [3] (fun i=>∃k:Nat,k<=s.size/\i=.int .i64 k/\Hid (∀i (h:i<s.size),i<k->B4 i s[i].toNat)) (fun i=>s.size-(intOf i).toNat)
 case atStart=>exact⟨0,zO _,rfl,fun i _ h=>absurd h (zi _)⟩
 case round=>
  obtain⟨k,hk,rfl,hI⟩:=hrel
  by_cases hlt:k<s.size
  .have hc:s[k].toNat<=255:=by have:=s[k].toNat_lt;omega
   have i0:(0:Int)<=(k:Int):=by omega
   have i1:(k:Int)<(s.size:Int):=by omega
   have HN:Hid (B4 k s[k].toNat->∀i (h:i<s.size),i<k+1->B4 i s[i].toNat):=fun h i hi h2=>by
    by_cases e:i=k
    .subst e;exact h
    exact hI.o i hi (by omega)
   have HB2:=zh (HB.o k hlt);clear hI
   by_cases e0:k=0
   .have b0:((k:Int)==0)=true:=by rw[yL];omega
    have b0n:((k:Int) != 0)=false:=by rw[yo];omega
    have b3:(k==0)=true:=by rw[yL];omega
    replace e0:=zh e0;have a:(s[k].toNat<=47/\0<=s[k].toNat)\/(48<=s[k].toNat/\s[k].toNat<=57)\/(58<=s[k].toNat/\s[k].toNat<=64)\/(65<=s[k].toNat/\s[k].toNat<=90)\/(91<=s[k].toNat/\s[k].toNat<=94)\/(95<=s[k].toNat/\s[k].toNat<=95)\/(96<=s[k].toNat/\s[k].toNat<=96)\/(97<=s[k].toNat/\s[k].toNat<=122)\/(123<=s[k].toNat/\s[k].toNat<=255):=by omega
    rcases a with⟨g1,g2⟩|⟨g1,g2⟩|⟨g1,g2⟩|⟨g1,g2⟩|⟨g1,g2⟩|⟨g1,g2⟩|⟨g1,g2⟩|⟨g1,g2⟩|⟨g1,g2⟩
    .have b1:((s[k].toNat:Int) != 95)=true:=by rw[zj];omega
     have b2:((s[k].toNat:Int)==95)=false:=by rw[zJ];omega
     have HR:Hid (A4 s=false):=HB2.o (by have:=e0.o;unfold B4;omega);clear HN HB2;go_wp2;go_ret;exact⟨Ag HR.o.symm,rfl⟩
    .have b1:((s[k].toNat:Int) != 95)=true:=by rw[zj];omega
     have b2:((s[k].toNat:Int)==95)=false:=by rw[zJ];omega
     have HR:Hid (A4 s=false):=HB2.o (by have:=e0.o;unfold B4;omega);clear HN HB2;go_wp2;go_ret;exact⟨Ag HR.o.symm,rfl⟩
    .have b1:((s[k].toNat:Int) != 95)=true:=by rw[zj];omega
     have b2:((s[k].toNat:Int)==95)=false:=by rw[zJ];omega
     have HR:Hid (A4 s=false):=HB2.o (by have:=e0.o;unfold B4;omega);clear HN HB2;go_wp2;go_ret;exact⟨Ag HR.o.symm,rfl⟩
    .have b1:((s[k].toNat:Int) != 95)=true:=by rw[zj];omega
     have b2:((s[k].toNat:Int)==95)=false:=by rw[zJ];omega
     have HR:=zh (HN.o (by have:=e0.o;unfold B4;omega));clear HN HB2;go_wp2;go_round
     case rel=>exact⟨k+1,by omega,by go_num,HR⟩
     case measure=>simp[intOf];omega
    .have b1:((s[k].toNat:Int) != 95)=true:=by rw[zj];omega
     have b2:((s[k].toNat:Int)==95)=false:=by rw[zJ];omega
     have c1:decide ((s[k].toNat:Int)<=90)=false:=by rw[zM];omega
     have d1:decide (s[k].toNat<=90)=false:=by rw[zM];omega
     have n1:¬((s[k].toNat:Int)<=90):=by omega
     have HR:Hid (A4 s=false):=HB2.o (by have:=e0.o;unfold B4;omega);clear HN HB2;go_wp2;go_ret;exact⟨Ag HR.o.symm,rfl⟩
    .have b1:((s[k].toNat:Int) != 95)=false:=by rw[yo];omega
     have b2:((s[k].toNat:Int)==95)=true:=by rw[yL];omega
     have c1:decide ((s[k].toNat:Int)<=90)=false:=by rw[zM];omega
     have d1:decide (s[k].toNat<=90)=false:=by rw[zM];omega
     have n1:¬((s[k].toNat:Int)<=90):=by omega
     have HR:Hid (A4 s=false):=HB2.o (by have:=e0.o;unfold B4;omega);clear HN HB2;go_wp2;go_ret;exact⟨Ag HR.o.symm,rfl⟩
    .have b1:((s[k].toNat:Int) != 95)=true:=by rw[zj];omega
     have b2:((s[k].toNat:Int)==95)=false:=by rw[zJ];omega
     have c1:decide ((s[k].toNat:Int)<=90)=false:=by rw[zM];omega
     have d1:decide (s[k].toNat<=90)=false:=by rw[zM];omega
     have n1:¬((s[k].toNat:Int)<=90):=by omega
     have HR:Hid (A4 s=false):=HB2.o (by have:=e0.o;unfold B4;omega);clear HN HB2;go_wp2;go_ret;exact⟨Ag HR.o.symm,rfl⟩
    .have b1:((s[k].toNat:Int) != 95)=true:=by rw[zj];omega
     have b2:((s[k].toNat:Int)==95)=false:=by rw[zJ];omega
     have c1:decide ((s[k].toNat:Int)<=90)=false:=by rw[zM];omega
     have d1:decide (s[k].toNat<=90)=false:=by rw[zM];omega
     have n1:¬((s[k].toNat:Int)<=90):=by omega
     have HR:=zh (HN.o (by have:=e0.o;unfold B4;omega));clear HN HB2;go_wp2;go_round
     case rel=>exact⟨k+1,by omega,by go_num,HR⟩
     case measure=>simp[intOf];omega
    have b1:((s[k].toNat:Int) != 95)=true:=by rw[zj];omega
    have b2:((s[k].toNat:Int)==95)=false:=by rw[zJ];omega
    have c0:decide ((s[k].toNat:Int)<=122)=false:=by rw[zM];omega
    have d0:decide (s[k].toNat<=122)=false:=by rw[zM];omega
    have n0:¬((s[k].toNat:Int)<=122):=by omega
    have c1:decide ((s[k].toNat:Int)<=90)=false:=by rw[zM];omega
    have d1:decide (s[k].toNat<=90)=false:=by rw[zM];omega
    have n1:¬((s[k].toNat:Int)<=90):=by omega
    have HR:Hid (A4 s=false):=HB2.o (by have:=e0.o;unfold B4;omega);clear HN HB2;go_wp2;go_ret;exact⟨Ag HR.o.symm,rfl⟩
   have b0:((k:Int)==0)=false:=by rw[zJ];omega
   have b0n:((k:Int) != 0)=true:=by rw[zj];omega
   have b3:(k==0)=false:=by rw[zJ];omega
   have a:(s[k].toNat<=47/\0<=s[k].toNat)\/(48<=s[k].toNat/\s[k].toNat<=57)\/(58<=s[k].toNat/\s[k].toNat<=64)\/(65<=s[k].toNat/\s[k].toNat<=90)\/(91<=s[k].toNat/\s[k].toNat<=94)\/(95<=s[k].toNat/\s[k].toNat<=95)\/(96<=s[k].toNat/\s[k].toNat<=96)\/(97<=s[k].toNat/\s[k].toNat<=122)\/(123<=s[k].toNat/\s[k].toNat<=255):=by omega
   rcases a with⟨g1,g2⟩|⟨g1,g2⟩|⟨g1,g2⟩|⟨g1,g2⟩|⟨g1,g2⟩|⟨g1,g2⟩|⟨g1,g2⟩|⟨g1,g2⟩|⟨g1,g2⟩
   .have b1:((s[k].toNat:Int) != 95)=true:=by rw[zj];omega
    have b2:((s[k].toNat:Int)==95)=false:=by rw[zJ];omega
    have HR:Hid (A4 s=false):=HB2.o (by unfold B4;omega);clear HN HB2;go_wp2;go_ret;exact⟨Ag HR.o.symm,rfl⟩
   .have b1:((s[k].toNat:Int) != 95)=true:=by rw[zj];omega
    have b2:((s[k].toNat:Int)==95)=false:=by rw[zJ];omega
    have HR:=zh (HN.o (by unfold B4;omega));clear HN HB2;go_wp2;go_round
    case rel=>exact⟨k+1,by omega,by go_num,HR⟩
    case measure=>simp[intOf];omega
   .have b1:((s[k].toNat:Int) != 95)=true:=by rw[zj];omega
    have b2:((s[k].toNat:Int)==95)=false:=by rw[zJ];omega
    have HR:Hid (A4 s=false):=HB2.o (by unfold B4;omega);clear HN HB2;go_wp2;go_ret;exact⟨Ag HR.o.symm,rfl⟩
   .have b1:((s[k].toNat:Int) != 95)=true:=by rw[zj];omega
    have b2:((s[k].toNat:Int)==95)=false:=by rw[zJ];omega
    have HR:=zh (HN.o (by unfold B4;omega));clear HN HB2;go_wp2;go_round
    case rel=>exact⟨k+1,by omega,by go_num,HR⟩
    case measure=>simp[intOf];omega
   .have b1:((s[k].toNat:Int) != 95)=true:=by rw[zj];omega
    have b2:((s[k].toNat:Int)==95)=false:=by rw[zJ];omega
    have c1:decide ((s[k].toNat:Int)<=90)=false:=by rw[zM];omega
    have d1:decide (s[k].toNat<=90)=false:=by rw[zM];omega
    have n1:¬((s[k].toNat:Int)<=90):=by omega
    have HR:Hid (A4 s=false):=HB2.o (by unfold B4;omega);clear HN HB2;go_wp2;go_ret;exact⟨Ag HR.o.symm,rfl⟩
   .have b1:((s[k].toNat:Int) != 95)=false:=by rw[yo];omega
    have b2:((s[k].toNat:Int)==95)=true:=by rw[yL];omega
    have c1:decide ((s[k].toNat:Int)<=90)=false:=by rw[zM];omega
    have d1:decide (s[k].toNat<=90)=false:=by rw[zM];omega
    have n1:¬((s[k].toNat:Int)<=90):=by omega
    have HR:=zh (HN.o (by unfold B4;omega));clear HN HB2;go_wp2;go_round
    case rel=>exact⟨k+1,by omega,by go_num,HR⟩
    case measure=>simp[intOf];omega
   .have b1:((s[k].toNat:Int) != 95)=true:=by rw[zj];omega
    have b2:((s[k].toNat:Int)==95)=false:=by rw[zJ];omega
    have c1:decide ((s[k].toNat:Int)<=90)=false:=by rw[zM];omega
    have d1:decide (s[k].toNat<=90)=false:=by rw[zM];omega
    have n1:¬((s[k].toNat:Int)<=90):=by omega
    have HR:Hid (A4 s=false):=HB2.o (by unfold B4;omega);clear HN HB2;go_wp2;go_ret;exact⟨Ag HR.o.symm,rfl⟩
   .have b1:((s[k].toNat:Int) != 95)=true:=by rw[zj];omega
    have b2:((s[k].toNat:Int)==95)=false:=by rw[zJ];omega
    have c1:decide ((s[k].toNat:Int)<=90)=false:=by rw[zM];omega
    have d1:decide (s[k].toNat<=90)=false:=by rw[zM];omega
    have n1:¬((s[k].toNat:Int)<=90):=by omega
    have HR:=zh (HN.o (by unfold B4;omega));clear HN HB2;go_wp2;go_round
    case rel=>exact⟨k+1,by omega,by go_num,HR⟩
    case measure=>simp[intOf];omega
   have b1:((s[k].toNat:Int) != 95)=true:=by rw[zj];omega
   have b2:((s[k].toNat:Int)==95)=false:=by rw[zJ];omega
   have c0:decide ((s[k].toNat:Int)<=122)=false:=by rw[zM];omega
   have d0:decide (s[k].toNat<=122)=false:=by rw[zM];omega
   have n0:¬((s[k].toNat:Int)<=122):=by omega
   have c1:decide ((s[k].toNat:Int)<=90)=false:=by rw[zM];omega
   have d1:decide (s[k].toNat<=90)=false:=by rw[zM];omega
   have n1:¬((s[k].toNat:Int)<=90):=by omega
   have HR:Hid (A4 s=false):=HB2.o (by unfold B4;omega);clear HN HB2;go_wp2;go_ret;exact⟨Ag HR.o.symm,rfl⟩
  obtain rfl:k=s.size:=by omega
  have HE:Hid (A4 s=true):=by
   have h:=HA.o fun i h=>hI.o i h h
   rwa [zH (by omega:0<s.size),zH h2]at h
  clear hI;go_wp2;go_ret;exact⟨Ag HE.o.symm,rfl⟩
theorem MT(s:ByteArray)(w:World)(hs:s.size<=9223372036854775807):
 Calls prog 63 #[.string s] w fun e w'=>e=.returned (.bool (A4 s))/\Below w.heap.size w w' :=
 (RN s w hs).mono fun e w' h=>by
   obtain⟨rfl,rfl⟩:=h;exact⟨rfl,zI _ _⟩
theorem TZ(b:Nat):(6000:Int)%(b:Int)=((6000%b:Nat):Int):=(vD 6000 b).symm
theorem RO{s:ByteArray}(h:isN s=true)(h4:s.size<=4):val s<10000:=by
 have h1:=Do (FL h);have h2:s.data.toList.length<=4:=by have:=xM s;omega
 have h3:10^s.data.toList.length<=10^4:=zW (by omega) h2
 show A0 s.data.toList<10000
 omega
theorem UW(s:ByteArray)(h:isN s=true)(h4:s.size<=4)(W:World):Calls prog 110 #[.string s] W fun e w'=>e=.returned (.tuple #[.int .i64 (val s:Int),.nilIface])/\Below W.heap.size W w':=by
 have ha:=Rv (val s);rw[OC h]at ha;have hv:val s<10000:=RO h h4;rw[zE (by omega)]at ha;refine(Tryz.strconv_Atoi_ok s (by omega) _ ha W).mono ?_;rintro e w' ⟨rfl,rfl|⟨t,rfl⟩⟩
 .exact⟨rfl,zI _ _⟩
 exact⟨rfl,Go.Joins.below_bytesWorld _ _ _ _ (zB _)⟩
theorem GV{g:Bool}{n d:ByteArray}(h:As g n d=true):isN n=true/\isN d=true/\val d≠0:=by
 unfold As at h;simp only[yI]at h;obtain⟨h1,h2,h3,_⟩:=h;exact⟨h1,h2,by simpa using h3⟩
theorem Fr{g:Bool}{n d:ByteArray}(h:As g n d=false\/g=true\/4<n.size\/4<d.size):unitsN (g,n,d)=0:=zE h
theorem If{g:Bool}{n d:ByteArray}(h1:As g n d=true)(h2:g=false)(h3:n.size<=4)(h4:d.size<=4):unitsN (g,n,d)=if val d<val n\/6000%val d≠0 then 0 else val n*(6000/val d):=by
 unfold unitsN;rw[zC];rintro(h|h|h|h)
 .rw[h1]at h;cases h
 .rw[h2]at h;cases h
 .simp only[]at h;omega
 simp only[]at h;omega
theorem PJ(g : Bool)(n d : ByteArray)(w : World)(hE : Env w)(hn:n.size<=140737488355328)(hd:d.size<=140737488355328):
 Calls prog 65 #[.agg #[.bool g,.string n,.string d]] w fun e w'=>e=.returned (.int .i64 (unitsN (g,n,d):Int))/\Below w.heap.size w w':=by
 have hv:Hid (∀W,Env W->Calls prog 66 #[.agg #[.bool g,.string n,.string d]] W fun e w'=>e=.returned (.bool (As g n d))/\Below W.heap.size W w'):=fun W hW=>Bh g n d W hW hn hd;replace hE:=zh hE;have s:Hid (Below w.heap.size w (w.alloc (.cells #[.bool g,.string n,.string d] 34))):=(zI _ w).alloc (zB _) _;have ah:Hid (B3 (w.alloc (.cells #[.bool g,.string n,.string d] 34)) w.heap.size g n d):=B3.new w g n d
 cases h1:As g n d with
 |false=>
  have HG:=zh (Fr (g:=g) (n:=n) (d:=d) (.inl h1));rw[h1]at hv;clear h1;go_enter func65,ntmps65
  go_wp2_with fail
  refine(hv.o _ (hE.o.below s.o)).q fun w1 hb=>?_;have aa:=s.t hb;clear hb;go_wp2;go_ret;exact⟨by rw[HG.o];rfl,aa.o⟩
 |true=>
  rw[h1]at hv;obtain⟨q1,q2,q3⟩:=GV h1
  by_cases af:g=true\/4<n.size\/4<d.size
  .have HG:=zh (Fr (g:=g) (n:=n) (d:=d) (.inr af));clear h1 q1 q2 q3;go_enter func65,ntmps65
   go_wp2_with fail
   refine(hv.o _ (hE.o.below s.o)).q fun w1 hb=>?_;have aa:=s.t hb;obtain⟨f1,f2,f3,_,_,_⟩:=(ah.o.below hb).facts;have f4:=(ah.o.below hb).lt;clear hb
   have ai:g=true\/(g=false/\4<n.size)\/(g=false/\n.size<=4/\4<d.size):=by
    cases g
    .rcases af with h|h|h
     .cases h
     .exact .inr (.inl ⟨rfl,h⟩)
     by_cases c:4<n.size
     .exact .inr (.inl ⟨rfl,c⟩)
     exact .inr (.inr ⟨rfl,by omega,h⟩)
    exact .inl rfl
   clear af
   rcases ai with rfl|⟨rfl,z1⟩|⟨rfl,z1,z2⟩
   all_goals (
    go_wp2;go_ret;exact⟨by rw[HG.o];rfl,aa.o⟩)
  have z0:g=false:=by
   cases g
   .rfl
   exact absurd (.inl rfl) af
  have z1:n.size<=4:=by omega
  have z2:d.size<=4:=by omega
  have HG:=If h1 z0 z1 z2;have ka:Hid (∀W,Calls prog 110 #[.string n] W fun e w'=>e=.returned (.tuple #[.int .i64 (val n:Int),.nilIface])/\Below W.heap.size W w'):=fun W=>UW n q1 z1 W;have kb:Hid (∀W,Calls prog 110 #[.string d] W fun e w'=>e=.returned (.tuple #[.int .i64 (val d:Int),.nilIface])/\Below W.heap.size W w'):=fun W=>UW d q2 z2 W;have v1:=RO q1 z1;have v2:=RO q2 z2;subst z0;clear h1 af q1 q2;generalize hA:val n=a at *;generalize hB:val d=b at *;clear hA hB;have v3:1<=b:=by omega
  have ai:(b<a)\/(a<=b/\6000%b≠0)\/(a<=b/\6000%b=0):=by omega
  rcases ai with c1|⟨c1,c2⟩|⟨c1,c2⟩
  .rw[zE (.inl c1)]at HG;replace HG:=zh HG;go_enter func65,ntmps65
   go_wp2_with fail
   refine(hv.o _ (hE.o.below s.o)).q fun w1 hb=>?_;have aa:=s.t hb;have ab:=zh (ah.o.below hb);obtain⟨f1,f2,f3,_,_,_⟩:=ab.o.facts;have f4:=ab.o.lt;clear hb
   go_wp2_with fail
   refine(ka.o _).q fun w2 hb=>?_;have ad:=aa.t hb;have ae:=zh (ab.o.below hb);clear hb f1 f2 f3 f4;obtain⟨f1,f2,f3,_,_,_⟩:=ae.o.facts;have f4:=ae.o.lt
   go_wp2_with fail
   refine(kb.o _).q fun w3 hb=>?_;have ag:=ad.t hb;clear hb f1 f2 f3 f4;go_wp2;go_ret;exact⟨by rw[HG.o];rfl,ag.o⟩
  .rw[zE (.inr c2)]at HG;replace HG:=zh HG;have t1:((6000:Int)%(b:Int) != 0)=true:=by rw[zj,TZ];omega
   go_enter func65,ntmps65
   go_wp2_with fail
   refine(hv.o _ (hE.o.below s.o)).q fun w1 hb=>?_;have aa:=s.t hb;have ab:=zh (ah.o.below hb);obtain⟨f1,f2,f3,_,_,_⟩:=ab.o.facts;have f4:=ab.o.lt;clear hb
   go_wp2_with fail
   refine(ka.o _).q fun w2 hb=>?_;have ad:=aa.t hb;have ae:=zh (ab.o.below hb);clear hb f1 f2 f3 f4;obtain⟨f1,f2,f3,_,_,_⟩:=ae.o.facts;have f4:=ae.o.lt
   go_wp2_with fail
   refine(kb.o _).q fun w3 hb=>?_;have ag:=ad.t hb;clear hb f1 f2 f3 f4;go_wp2;go_ret;exact⟨by rw[HG.o];rfl,ag.o⟩
  rw[zC (by omega)]at HG;replace HG:=zh HG;have t1:((6000:Int)%(b:Int) != 0)=false:=by rw[yo,TZ];omega
  have t2:a*(6000/b)<=6000:=zV (yO _ c1) (Nat.mul_div_le _ _);have t3:(0:Int)<=(a:Int)*((6000:Int)/(b:Int)):=by have:=Int.natCast_nonneg (a*(6000/b));rw[ya]at this;exact this
  have t4 : (a : Int) * ((6000 : Int) / (b : Int)) <= 6000 := by have h:((a*(6000/b):Nat):Int)<=6000:=by omega
                                                                 rw[ya]at h;exact h
  have HP:Hid (((a*(6000/b):Nat):Int)=(a:Int)*((6000:Int)/(b:Int))):=by rw[ya];rfl
  clear t2;go_enter func65,ntmps65
  go_wp2_with fail
  refine(hv.o _ (hE.o.below s.o)).q fun w1 hb=>?_;have aa:=s.t hb;have ab:=zh (ah.o.below hb);obtain⟨f1,f2,f3,_,_,_⟩:=ab.o.facts;have f4:=ab.o.lt;clear hb
  go_wp2_with fail
  refine(ka.o _).q fun w2 hb=>?_;have ad:=aa.t hb;have ae:=zh (ab.o.below hb);clear hb f1 f2 f3 f4;obtain⟨f1,f2,f3,_,_,_⟩:=ae.o.facts;have f4:=ae.o.lt
  go_wp2_with fail
  refine(kb.o _).q fun w3 hb=>?_;have ag:=ad.t hb;clear hb f1 f2 f3 f4;go_wp2;go_ret;exact⟨by rw[HG.o,HP.o];rfl,ag.o⟩
end Ci
end
section
open Go.Maps (Keyed)
open Go.RowKit
namespace Ci
def RP(v:Value):Option (DataW Value×List MemPlace):=some (.held v,[])
def PK{α:Type}[DecidableEq α](f:α->Option Value)(x:α)(v:Option Value):α->Option Value:=fun y=>if y=x then v else f y
theorem Cn{α:Type}[DecidableEq α](f:α->Option Value)(x:α)(v:Option Value):PK f x v x=v:=zE rfl
theorem Cg{α:Type}[DecidableEq α]{f:α->Option Value}{x y:α}{v:Option Value}(h:y≠x):PK f x v y=f y:=zC h
def MapK{α:Type}(P:Program)(k:TypeId)(κ:α->Lit)(w:World)(b c:Nat)(f:α->Option Value):Prop :=
 ∃D:DataW Value,w.ownsMap P k RP b c D/\Maps.size D=c/\∀x,Maps.has D (κ x)=(f x).isSome/\∀z,D.atKey (κ x) z=match f x with|some v=>.held v|none=>z
section
variable {α:Type} {P:Program} {k t e:TypeId} {κ:α->Lit} {w w':World} {b c:Nat} {f:α->Option Value}
theorem Jo{R:Value->Option (DataW Value×List MemPlace)}{n:Nat}{D:DataW Value}(h:w.ownsMap P k R b n D):w.ownsMap P k R b (Maps.size D) D:=by
 obtain⟨es,clock,hb,F,_,rfl⟩:=h;refine⟨es,clock,hb,F,?_,rfl⟩;simp[Maps.size,length_sorted]
theorem MapK.made(w:World)(P:Program)(k:TypeId)(κ:α->Lit):MapK P k κ (w.alloc (.map #[] 0)) w.heap.size 0 fun _=>none :=
 ⟨.map [],World.ownsMap_made w P k RP,rfl,fun _=>⟨rfl,fun _=>rfl⟩⟩
theorem MapK.lt(h:MapK P k κ w b c f):b<w.heap.size:=by obtain⟨D,h,_⟩:=h;exact h.lt
theorem MapK.kept{row:Option Nat}(h:MapK P k κ w b c f)(hg:w.grownBy w' row)(a:some b≠row):MapK P k κ w' b c f:=by
 obtain⟨D,h,r⟩:=h;exact⟨D,h.kept hg a,r⟩
theorem MapK.block(h:MapK P k κ w b c f)(hb:w'.heap[b]? = w.heap[b]?):MapK P k κ w' b c f:=by
 obtain⟨D,⟨es,clock,h1,h2⟩,r⟩:=h;exact⟨D,⟨es,clock,hb.trans h1,h2⟩,r⟩
theorem MapK.below(h:MapK P k κ w b c f)(hb:Below w.heap.size w w'):MapK P k κ w' b c f:=h.block (hb.block b h.lt)
theorem MapK.alloc(h:MapK P k κ w b c f)(o:Obj):MapK P k κ (w.alloc o) b c f:=by
 obtain⟨D,h,r⟩:=h;exact⟨D,h.alloc o,r⟩
theorem MapK.drew(h:MapK P k κ w b c f):MapK P k κ w.drew b c f:=h
theorem MapK.set(h:MapK P k κ w b c f){a:Addr}(ha:b≠a.block)(u:Value):MapK P k κ (w.setCell a u) b c f:=by
 obtain⟨D,h,r⟩:=h;exact⟨D,h.setCell ha u,r⟩
theorem MapK.congr{g:α->Option Value}(h:MapK P k κ w b c f)(e:∀x,f x=g x):MapK P k κ w b c g:=by rwa [<-funext e]
theorem MapK.look(h:MapK P k κ w b c f)(K:Keyed P k)(ht:P.underlying t=some (.map k e)){z:Value}(hz:(zeroValue e).run P w=.ok z w){key:Value}{x:α}(a:keyOf P k key=some (κ x)):
 (Instr.lookup t (.map (some b)) key false).run P w=.ok ((f x).getD z) w:=by
 obtain⟨D,h,_,hv⟩:=h;obtain⟨v,ps,d,hR⟩:=h.lookup K ht hz (zd:=.held z) (zp:=[]) rfl a;rw[d];rw[(hv x).2]at hR;simp only[RP,Option.some.injEq,Prod.mk.injEq]at hR
 cases hf:f x with
 |none=>rw[hf]at hR;simp only[DataW.held.injEq]at hR;rw[hR.1];rfl
 |some u=>rw[hf]at hR;simp only[DataW.held.injEq]at hR;rw[hR.1];rfl
theorem MapK.look_ok(h:MapK P k κ w b c f)(K:Keyed P k)(ht:P.underlying t=some (.map k e)){z:Value}(hz:(zeroValue e).run P w=.ok z w){key:Value}{x:α}(a:keyOf P k key=some (κ x)):
 (Instr.lookup t (.map (some b)) key true).run P w=.ok (.tuple #[(f x).getD z,.bool (f x).isSome]) w:=by
 obtain⟨D,h,_,hv⟩:=h;obtain⟨v,ps,d,hR⟩:=h.look_ok K ht hz (zd:=.held z) (zp:=[]) rfl a;rw[d,(hv x).1];rw[(hv x).2]at hR;simp only[RP,Option.some.injEq,Prod.mk.injEq]at hR
 cases hf:f x with
 |none=>rw[hf]at hR;simp only[DataW.held.injEq]at hR;rw[hR.1];rfl
 |some u=>rw[hf]at hR;simp only[DataW.held.injEq]at hR;rw[hR.1];rfl
theorem MapK.put[DecidableEq α](h:MapK P k κ w b c f)(hκ:∀x y,κ x=κ y->x=y)(K:Keyed P k)(ht:P.underlying t=some (.map k e))(hn:c<maxLen){key:Value}{x:α}(a:keyOf P k key=some (κ x))(v:Value):
 ∃w',(Instr.mapUpdate t (.map (some b)) key v).run P w=.ok () w'/\MapK P k κ w' b (if (f x).isSome then c else c+1) (PK f x (some v))/\w.grownBy w' (some b):=by
 obtain⟨D,h,hs,hv⟩:=h;obtain⟨w',s,h2,hg⟩:=h.update K ht hn a (R:=RP) (val:=v) rfl
 have aa:Maps.size (D.put (κ x) (.held v))=if (f x).isSome then c else c+1:=by
  rw[Maps.size_put (h.tidy K),hs,(hv x).1]
 refine⟨w',s,⟨_,by have:=Jo h2;rwa [aa]at this,aa,fun y=>?_⟩,hg⟩
 by_cases hy:y=x
 .subst hy;rw[Cn];exact⟨Maps.has_put_same h.isMap (K.key a) _,fun z=>Maps.atKey_put_same h.isMap (K.key a) _ z⟩
 have d:κ y≠κ x:=fun e=>hy (hκ _ _ e);rw[Cg hy,Maps.has_put_other d];refine⟨(hv y).1,fun z=>?_⟩;rw[Maps.atKey_put_other d];exact(hv y).2 z
theorem MapK.del[DecidableEq α](h:MapK P k κ w b c f)(hκ:∀x y,κ x=κ y->x=y)(K:Keyed P k)(ht:P.underlying t=some (.map k e)){key:Value}{x:α}(a:keyOf P k key=some (κ x))(ty:TypeId):
 ∃w',(Builtin.delete_ #[t,k] ty #[.map (some b),key]).run P w=.ok (.tuple #[]) w'/\MapK P k κ w' b (if (f x).isSome then c-1 else c) (PK f x none)/\w.grownBy w' (some b):=by
 obtain⟨D,h,hs,hv⟩:=h;obtain⟨w',s,h2,hg⟩:=h.drop K ht a ty
 have aa:Maps.size (D.del (κ x))=if (f x).isSome then c-1 else c:=by
  have:=Maps.size_del (k:=κ x) (h.tidy K);rw[hs,(hv x).1]at this
  split<;>simp_all<;>omega
 refine⟨w',s,⟨_,by have:=Jo h2;rwa [aa]at this,aa,fun y=>?_⟩,hg.grown⟩
 by_cases hy:y=x
 .subst hy;rw[Cn];exact⟨Maps.has_del_same,fun z=>Maps.atKey_del_same z⟩
 have d:κ y≠κ x:=fun e=>hy (hκ _ _ e);rw[Cg hy,Maps.has_del_other d];refine⟨(hv y).1,fun z=>?_⟩;rw[Maps.atKey_del_other d];exact(hv y).2 z
theorem MapK.len(h:MapK P k κ w b c f)(ht:P.underlying t=some (.map k e))(ty:TypeId):(Builtin.len_ #[t] ty #[.map (some b)]).run P w=.ok (.int .i64 c) w:=by
 obtain⟨D,h,hs,_⟩:=h;rw[h.len ht,hs]
end
def κi(a:Int):Lit:=.int .i64 a
theorem G6:∀x y,κi x=κi y->x=y:=fun x y h=>by injection h
theorem EI{P:Program}{k:TypeId}(hk:P.underlying k=some (.int .i64)){a:Int}(h1:-9223372036854775808<=a)(h2:a<=9223372036854775807):keyOf P k (.int .i64 a)=some (κi a):=Maps.keyOf_int_mk hk (WalkArith.wf_i64 ⟨h1,h2⟩)
end Ci
end
section
open Go.RowKit Go.Shelf
namespace Ci
open Nt
def Bt:Code->List Code
 |.loop c=>Bt c
 |.seq a b=>Bt a++Bt b
 |.block _ c=>Bt c
 |.scope c=>Bt c
 |.cond _ a b=>Bt a++Bt b
 |.region a b c=>[.region a b c]
 |_=>[]
noncomputable def Wv(j:Nat):Code:=((Tryz.f64.body.map Bt).bind fun l=>l[j]?).getD .skip
theorem Ww{c0 c1 c2 c3 c4 c6 c7 c9 a d s aa ab ad ae af ag ah ai aj ak al am an ao aq ar au av aw ax ay az aA aB aC aD aE aF aG aH aI aJ aK aL aM aN aO aP aQ aR aS aT aU aV aW aX aY aZ a0 a1 a2 a3 a4 a5 a6 a7 a8 a9 ba bb bc bd be bf bg bh bi bj bk bm bn bo bp bq br bs bt bu bv bx bz bA bB:Value}{Q:Exit->Act->World->Prop}(kb lb:Nat)(co ho lc lh:Int)(r:Bool)(hr:r=decide (lc<co\/(lc=co/\lh<ho)))(w:World)(u2:w.cell? ⟨kb,0,none⟩=some (.int .i64 co))(u3:w.cell? ⟨kb,1,none⟩=some (.int .i64 ho))(u4:w.cell? ⟨lb,0,none⟩=some (.int .i64 lc))(u5:w.cell? ⟨lb,1,none⟩=some (.int .i64 lh))
 (h:∀u33 u34 u35 u36 u37 u38 u39 u40 u41 u42 u43 u44 u45 u46 u47 u48 u49 u50 u51:Value,Q .normal ⟨#[c0,c1,c2,c3,c4,.pointer (some ⟨lb,0,none⟩),c6,c7,.pointer (some ⟨kb,0,none⟩),c9,.bool r,a,d,s,aa,ab,ad,ae,af,ag,ah,ai,aj,ak,al,am,an,ao,aq,ar,au,av,aw,u33,u34,u35,u36,u37,u38,u39,u40,u41,u42,u43,u44,u45,u46,u47,u48,u49,u50,u51,ax,ay,az,aA,aB,aC,aD,aE,aF,aG,aH,aI,aJ,aK,aL,aM,aN,aO,aP,aQ,aR,aS,aT,aU,aV,aW,aX,aY,aZ,a0,a1,a2,a3,a4,a5,a6,a7,a8,a9,ba,bb,bc,bd,be],[]⟩ w):
 Code.wp prog (Wv 7) Q ⟨#[c0,c1,c2,c3,c4,.pointer (some ⟨lb,0,none⟩),c6,c7,.pointer (some ⟨kb,0,none⟩),c9,bf,a,d,s,aa,ab,ad,ae,af,ag,ah,ai,aj,ak,al,am,an,ao,aq,ar,au,av,aw,bg,bh,bi,bj,bk,bm,bn,bo,bp,bq,br,bs,bt,bu,bv,bx,bz,bA,bB,ax,ay,az,aA,aB,aC,aD,aE,aF,aG,aH,aI,aJ,aK,aL,aM,aN,aO,aP,aQ,aR,aS,aT,aU,aV,aW,aX,aY,aZ,a0,a1,a2,a3,a4,a5,a6,a7,a8,a9,ba,bb,bc,bd,be],[]⟩ w:=by
 conv=>arg 2;whnf
 conv=>arg 4;zeta
 replace h:=zh h;have bC:(lc<co)\/(co=lc/\lh<ho)\/(co<lc)\/(co=lc/\ho<=lh):=by omega
 rcases bC with r1|⟨r1,r2⟩|r1|⟨r1,r2⟩
 .have m1:(co==lc)=false:=by rw[zJ];omega
  obtain rfl:r=true:=by rw[hr,zH (.inl r1)]
  clear hr;go_wp2;exact h.o ..
 .have m1:(co==lc)=true:=by rw[yL];exact r1
  have m2:co<=lc:=by omega
  obtain rfl:r=true:=by rw[hr,zH (.inr ⟨r1.symm,r2⟩)]
  clear hr r1;go_wp2;exact h.o ..
 .have m1:(co==lc)=false:=by rw[zJ];omega
  obtain rfl:r=false:=by rw[hr,zD (by omega)]
  have m3:decide (lc<co)=false:=zD (by omega);clear hr;go_wp2;exact h.o ..
 have m1:(co==lc)=true:=by rw[yL];exact r1
 have m2:co<=lc:=by omega
 obtain rfl:r=false:=by rw[hr,zD (by omega)]
 have m3:decide (lc<co)=false:=zD (by omega);have m4:decide (lh<ho)=false:=zD (by omega);clear hr r1;go_wp2;exact h.o ..
theorem Wx{c0 c2 c3 c5 c6 a d aa ab ad ae af ag ah ai aj ak al am an ao aq ar au av aw ax ay az aA aB aC aD aE aF aG aH aI aJ aK aL aM aN aO aP aQ aR aS aT aU aV aW aX aY aZ a0 a1 a2 a3 a4 a5 a6 a7 a8 a9 ba bb bc bd be bf bg bh bi a78 a79 bj bk bm bn bo bp bq br bs a89 bt bu bv bx:Value}{Q:Exit->Act->World->Prop}(xb kb nb mb n p s:Nat)(co ho:Int)(r q:Bool)(hq:q=decide (co<0\/(n:Int)<=co\/ho<0\/(n:Int)<=ho\/co=ho\/r=false\/p=0\/6000<s))(w:World)(bB:p<=6000)(hs:s<=12000)(hn:n<=140737488355328)(u1:w.cell? ⟨xb,0,none⟩=some (.int .i64 co))(u2:w.cell? ⟨kb,0,none⟩=some (.int .i64 co))(u3:w.cell? ⟨kb,1,none⟩=some (.int .i64 ho))(u4:w.cell? ⟨nb,0,none⟩=some (.int .i64 (n:Int)))(hk:(Instr.lookup 91 (.map (some mb)) (.int .i64 co) false).run prog w=.ok (.int .i64 (s:Int)) w)
 (h:∀u52 u53 u54 u55 u56 u57 u58 u59 u60 u61 u62 u63 u64 u65 u66 u67 u68 u69 u70 u71 u72 u73 u74 u75 u76 u77 u78 u79 u80 u81 u82 u83 u84 u85 u86 u87 u88 u89 u90 u91 u92:Value,Q .normal ⟨#[c0,.pointer (some ⟨nb,0,none⟩),c2,c3,.map (some mb),c5,c6,.pointer (some ⟨xb,0,none⟩),.pointer (some ⟨kb,0,none⟩),.int .i64 (p:Int),.bool r,a,d,aa,ab,ad,ae,af,ag,ah,ai,aj,ak,al,am,an,ao,aq,ar,au,av,aw,ax,ay,az,aA,aB,aC,aD,aE,aF,aG,aH,aI,aJ,aK,aL,aM,aN,aO,aP,aQ,u52,u53,u54,u55,u56,u57,u58,u59,u60,u61,u62,u63,u64,u65,u66,u67,u68,u69,u70,u71,u72,u73,u74,u75,u76,u77,u78,u79,u80,u81,u82,u83,u84,u85,u86,u87,u88,u89,u90,u91,u92,.bool q,aR,aS],[]⟩ w):
 Code.wp prog (Wv 8) Q ⟨#[c0,.pointer (some ⟨nb,0,none⟩),c2,c3,.map (some mb),c5,c6,.pointer (some ⟨xb,0,none⟩),.pointer (some ⟨kb,0,none⟩),.int .i64 (p:Int),.bool r,a,d,aa,ab,ad,ae,af,ag,ah,ai,aj,ak,al,am,an,ao,aq,ar,au,av,aw,ax,ay,az,aA,aB,aC,aD,aE,aF,aG,aH,aI,aJ,aK,aL,aM,aN,aO,aP,aQ,aT,aU,aV,aW,aX,aY,aZ,a0,a1,a2,a3,a4,a5,a6,a7,a8,a9,ba,bb,bc,bd,be,bf,bg,bh,bi,a78,a79,bj,bk,bm,bn,bo,bp,bq,br,bs,a89,bt,bu,bv,bx,aR,aS],[]⟩ w:=by
 conv=>arg 2;whnf
 conv=>arg 4;zeta
 replace h:=zh h;have bz:(co<0)\/(0<=co/\(n:Int)<=co)\/(0<=co/\co<n/\ho<0)\/(0<=co/\co<n/\0<=ho/\(n:Int)<=ho)\/(0<=co/\co<n/\0<=ho/\ho<n/\co=ho)\/(0<=co/\co<n/\0<=ho/\ho<n/\co≠ho):=by omega
 rcases bz with b1|⟨b1,b2⟩|⟨b1,b2,b3⟩|⟨b1,b2,b3,b4⟩|⟨b1,b2,b3,b4,b5⟩|⟨b1,b2,b3,b4,b5⟩
 .have q0:True:=trivial;clear q0;obtain rfl:q=true:=by rw[hq,zH (.inl b1)]
  clear hq;go_wp2;exact h.o ..
 .have q0:True:=trivial;clear q0;obtain rfl:q=true:=by rw[hq,zH (.inr (.inl b2))]
  clear hq;go_wp2;exact h.o ..
 .have q0:True:=trivial;clear q0;obtain rfl:q=true:=by rw[hq,zH (.inr (.inr (.inl b3)))]
  clear hq;go_wp2;exact h.o ..
 .have q0:True:=trivial;clear q0;obtain rfl:q=true:=by rw[hq,zH (.inr (.inr (.inr (.inl b4))))]
  clear hq;go_wp2;exact h.o ..
 .have m5:(co==ho)=true:=by rw[yL];exact b5
  obtain rfl:q=true:=by rw[hq,zH (.inr (.inr (.inr (.inr (.inl b5)))))]
  clear hq b5;go_wp2;exact h.o ..
 have m5:(co==ho)=false:=by rw[zJ];exact b5
 cases r with
 |false=>
  obtain rfl:q=true:=by rw[hq,zH (.inr (.inr (.inr (.inr (.inr (.inl rfl))))))]
  clear hq;go_wp2;exact h.o ..
 |true=>
  have bA:p=0\/(1<=p/\6000<s)\/(1<=p/\s<=6000):=by omega
  rcases bA with p1|⟨p1,p2⟩|⟨p1,p2⟩
  .have m6:((p:Int)==0)=true:=by rw[yL];omega
   have m7:(p==0)=true:=by rw[yL];exact p1
   obtain rfl:q=true:=by rw[hq,zH (.inr (.inr (.inr (.inr (.inr (.inr (.inl p1)))))))]
   clear hq;replace p1:=zh p1;go_wp2;exact h.o ..
  .have m6:((p:Int)==0)=false:=by rw[zJ];omega
   have m7:(p==0)=false:=by rw[zJ];omega
   have m8:decide (6000<(s:Int))=true:=zH (by omega);have m9:decide (6000<s)=true:=zH p2;obtain rfl:q=true:=by rw[hq,zH (.inr (.inr (.inr (.inr (.inr (.inr (.inr p2)))))))]
   clear hq;go_wp2;exact h.o ..
  have m6:((p:Int)==0)=false:=by rw[zJ];omega
  have m7:(p==0)=false:=by rw[zJ];omega
  obtain rfl:q=false:=by rw[hq,zD];rintro(c|c|c|c|c|c|c|c)<;>first|omega|exact b5 c|cases c
  have m8:decide (6000<(s:Int))=false:=zD (by omega);have m9:decide (6000<s)=false:=zD (by omega);have bC:decide (co<0)=false:=zD (by omega);have bD:decide ((n:Int)<=co)=false:=zD (by omega);have bE:decide (ho<0)=false:=zD (by omega);have bF:decide ((n:Int)<=ho)=false:=zD (by omega);clear hq;go_wp2;exact h.o ..
end Ci
end
end Go.Proofs.YtmfjbpcecpgchaaGreatDoor

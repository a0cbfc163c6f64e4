/- Parts of the proof. -/
import Derived.Deep.AppendLies
import Derived.Deep.Upon
import Derived.WideKeyEntry
import Derived.Shelf.SlSortCmp.NoneTotal
import Derived.Test.YtefmpngjjmddjaaGreatDoorKhG
set_option maxHeartbeats 16000000
set_option maxRecDepth 1000000
open Go.Proofs.Tryz
namespace Go.Proofs.YtefmpngjjmddjaaGreatDoor
theorem tkhH{P:Program}{md:Region.Mode}{ops:Array Oper}{Q:Exit->Act->World->Prop}{S:World->Prop}{oi:Oper}{v:Value}{fuel:Nat}{listed:Array Bool}{a:Act}{w:World}(i:Nat)(hi:ops[i]?=some oi)(hS:S w)(hy:YieldsIf P ops S oi v a)(h:wpAnyH P md ops Q S fuel (listed.setIfInBounds i true) (a.put oi.dst v) w)(hs:Region.noSelect ops=true:=by kernel_rfl)(hf:Region.free md ops listed i=true:=by kernel_rfl)(hr:(Region.ready md ops listed).contains i=true:=by kernel_rfl)(hQ:∀c a w,Q (.panic c) (a.put oi.dst v) w->Q (.panic c) a w:=by exact fun _ _ _ h=>h):wpAnyH P md ops Q S (fuel+1) listed a w:=xZ hi hs hf hr hQ hy hS h
section
open Go.RowKit Go.Shelf
namespace Rg
open Nt Ci
instance (x:ByteArray) (l:List ByteArray):Decidable (x∈l):=decidable_of_iff (∃y,y∈l/\y=x) ⟨fun⟨_,h,e⟩=>e▸h,fun h=>⟨x,h,rfl⟩⟩
structure Hd where
 id:ByteArray
 co:ByteArray
 ho:ByteArray
 no:ByteArray
 pl:ByteArray
 jo:List ByteArray
 ca:Int
 vo:Int
 fr:Int
 tt:Int
def D7(n:Int):Prop:=0<=n/\n<=100000
instance (n:Int):Decidable (D7 n):=inferInstanceAs (Decidable (_/\_))
def CV(n:Int):Prop:=0<=n/\n<=100
instance (n:Int):Decidable (CV n):=inferInstanceAs (Decidable (_/\_))
def IR(s:ByteArray):Prop:=s.size=0\/An s=true
instance (s:ByteArray):Decidable (IR s):=inferInstanceAs (Decidable (_\/_))
def Oy(h:Hd)(k:Nat)(hk:k<h.jo.length):Prop:=An h.jo[k]=true/\h.jo[k]∉h.ho::h.jo.take k
instance (h:Hd) (k:Nat) (hk:k<h.jo.length):Decidable (Oy h k hk):=inferInstanceAs (Decidable (_/\_))
def Kj(h:Hd):Prop:=An h.id=true/\An h.co=true/\An h.ho=true/\IR h.no/\IR h.pl/\h.jo.length<=4/\(h.no.size=0\/h.jo.length=0)
instance (h:Hd):Decidable (Kj h):=inferInstanceAs (Decidable (_/\_))
def Kl(h:Hd):Prop:=h.co∉h.ho::h.jo/\h.co≠h.no/\CV h.ca/\CV h.vo/\D7 h.fr/\(h.tt=-1\/D7 h.tt/\h.fr<h.tt)
instance (h:Hd):Decidable (Kl h):=inferInstanceAs (Decidable (_/\_))
def Proper(h:Hd):Prop:=Kj h/\(∀k (hk:k<h.jo.length),Oy h k hk)/\Kl h
instance (h:Hd):Decidable (Proper h):=inferInstanceAs (Decidable (_/\_))
def BC(h:Hd)(day:Int):Prop:=h.fr<=day/\(h.tt=-1\/day<h.tt)
instance (h:Hd) (day:Int):Decidable (BC h day):=inferInstanceAs (Decidable (_/\_))
def opt(s:ByteArray):List ByteArray:=if s.size=0 then [] else [s]
def nms(h:Hd):List ByteArray:=h.co::h.ho::(opt h.no++opt h.pl++h.jo.flatMap opt)
def D8(l:List Hd):List ByteArray:=l.flatMap nms
def ltB(a b:ByteArray):Prop:=a.data.toList<b.data.toList
instance (a b:ByteArray):Decidable (ltB a b):=inferInstanceAs (Decidable (_<_))
theorem EZ(a b:ByteArray)(h:ltB a b):¬ltB b a:=List.lt_asymm h
theorem DX{α:Type _}{r:α->α->Prop}(asym:∀a b,r a b->¬r b a):∀{l m:List α},l.Pairwise r->m.Pairwise r->(∀x,x∈l<->x∈m)->l=m
 | [],[],_,_,_=>rfl
 | [],b::m,_,_,h=>absurd ((h b).2 zf) yZ
 |a::l,[],_,_,h=>absurd ((h a).1 zf) yZ
 |a :: l,b::m,hl,hm,h=>by
  have d:=List.pairwise_cons.1 hl;have aa:=List.pairwise_cons.1 hm
  have e:a=b:=by
   rcases List.mem_cons.1 ((h a).1 zf) with e|e
   .exact e
   rcases List.mem_cons.1 ((h b).2 zf) with f|f
   .exact f.symm
   exact absurd (aa.1 a e) (asym _ _ (d.1 b f))
  subst e
  congr 1
  refine DX asym d.2 aa.2 fun x=>⟨fun hx=>?_,fun hx=>?_⟩
  .rcases List.mem_cons.1 ((h x).1 (zY _ hx)) with f|f
   .subst f;exact absurd (d.1 x hx) (asym _ _ (d.1 x hx))
   exact f
  rcases List.mem_cons.1 ((h x).2 (zY _ hx)) with f|f
  .subst f;exact absurd (aa.1 x hx) (asym _ _ (aa.1 x hx))
  exact f
def IsParts(l:List Hd)(ps:List ByteArray):Prop:=ps.Pairwise ltB/\∀x,x∈ps<->x∈D8 l
theorem IsParts.unique{l m:List Hd}{ps qs:List ByteArray}(h:IsParts l ps)(k:IsParts m qs)(e:∀x,x∈D8 l<->x∈D8 m):ps=qs :=
 DX EZ h.1 k.1 fun x=>(h.2 x).trans ((e x).trans (k.2 x).symm)
def AY(f:Hd->Int)(l:List Hd)(day:Int)(c:ByteArray):Int:=((l.filter fun h=>decide (BC h day)&&decide (h.co=c)).map f).sum
def DN(l:List Hd)(day:Int):Prop:=∀h∈l,AY Hd.ca l day h.co<=100/\AY Hd.vo l day h.co<=100
instance (l:List Hd) (day:Int):Decidable (DN l day):=inferInstanceAs (Decidable (∀h∈l,_))
def Ce(l:List Hd):Prop:=∀h∈l,DN l h.fr
instance (l:List Hd):Decidable (Ce l):=inferInstanceAs (Decidable (∀h∈l,_))
def IS(l:List Hd)(k:Nat)(h:k<l.length):Prop:=Proper l[k]/\l[k].id∉(l.take k).map Hd.id
instance (l:List Hd) (k:Nat) (h:k<l.length):Decidable (IS l k h):=inferInstanceAs (Decidable (_/\_))
def Valid(l:List Hd):Prop:=(∀k (h:k<l.length),IS l k h)/\l.length<=400/\(∀ps,IsParts l ps->ps.length<=60)/\Ce l
def Cv(h:Hd):List ByteArray:=if h.no.size=0 then h.ho::h.jo else [h.no]
def E8(h:Hd):List ByteArray:=if h.pl.size=0 then Cv h else [h.pl]
def Lb(who:List ByteArray)(co:ByteArray)(p:Int):List ((ByteArray×ByteArray)×Int) :=
 (who.filter fun x=>decide (0<p)&&decide (x≠co)).map fun x=>((co,x),p*60/who.length)
def addC(day:Int)(h:Hd):List ((ByteArray×ByteArray)×Int):=if BC h day then Lb (Cv h) h.co h.ca else []
def addV(day:Int)(h:Hd):List ((ByteArray×ByteArray)×Int):=if BC h day then Lb (E8 h) h.co h.vo else []
def tot(D:List ((ByteArray×ByteArray)×Int))(k:ByteArray×ByteArray):Int:=((D.filter fun x=>decide (x.1=k)).map (·.2)).sum
def rqR(q:Rat):Rw:=(decide (q.num<0),T (some q.num.natAbs),T (some q.den))
def IsLinks(ps:List ByteArray)(D:List ((ByteArray×ByteArray)×Int))(l:List Lk):Prop :=
 l.Pairwise Rise/\(∀x∈l,∃i j,∃(hi:i<ps.length)(hj:j<ps.length),x.1=i/\x.2.1=j/\(∃v,((ps[i],ps[j]),v)∈D)/\lkP x=rqR (ofQ (tot D (ps[i],ps[j])) 6000)) /\
 ∀i j (hi:i<ps.length) (hj:j<ps.length),(∃v,((ps[i],ps[j]),v)∈D)->∃x∈l,x.1=i/\x.2.1=j
theorem Rise.asym(a b:Lk)(h:Rise a b):¬Rise b a:=by unfold Rise at *;omega
theorem IsLinks.unique{ps:List ByteArray}{D E:List ((ByteArray×ByteArray)×Int)}{l m:List Lk}(h:IsLinks ps D l)(k:IsLinks ps E m)
 (e:∀p,(∃v,(p,v)∈D)<->∃v,(p,v)∈E)(t:∀p,tot D p=tot E p):l=m:=by
 have key:∀{D E:List ((ByteArray×ByteArray)×Int)} {l m:List Lk},IsLinks ps D l->IsLinks ps E m->(∀p,(∃v,(p,v)∈D)<->∃v,(p,v)∈E)->(∀p,tot D p=tot E p)->∀x,x∈l->x∈m:=by
  intro D E l m h k e t x hx;obtain⟨i,j,hi,hj,e1,e2,e3,e4⟩:=h.2.1 x hx;obtain⟨y,hy,f1,f2⟩:=k.2.2 i j hi hj ((e _).1 e3);obtain⟨i',j',ad,ae,g1,g2,_,g4⟩:=k.2.1 y hy;have d:i'=i:=by omega
  have aa:j'=j:=by omega
  subst d;subst aa
  have:x=y:=by
   obtain⟨x1,x2,x3⟩:=x;obtain⟨y1,y2,y3⟩:=y;simp only[lkP]at e1 e2 f1 f2 e4 g4;rw[t]at e4;rw[e1,e2,f1,f2]
   congr 2
   exact(Prod.ext_iff.1 (e4.trans g4.symm)).elim fun a b=>Prod.ext a (Prod.ext (Prod.ext_iff.1 b).1 (Prod.ext_iff.1 b).2)
  rw[this];exact hy
 exact DX Rise.asym h.1 k.1 fun x=>⟨key h k e t x,key k h (fun p=>(e p).symm) (fun p=>(t p).symm) x⟩
def AtS(l:List Hd)(day:Int)(s:SR):Prop :=
 IsParts l s.ps/\IsLinks s.ps (l.flatMap (addC day)) s.cap/\IsLinks s.ps (l.flatMap (addV day)) s.vot
theorem BB{a b:ByteArray}:(a.toList==b.toList)=decide (a=b):=by
 rw[xp,xQ,ye,ya,ya];constructor
 .intro h;obtain⟨a⟩:=a;obtain⟨b⟩:=b;exact congrArg ByteArray.mk (Array.toList_inj.1 h)
 rintro rfl;rfl
theorem Dn{a:ByteArray}:a=⟨#[]⟩<->a.size=0:=by
 constructor
 .rintro rfl;rfl
 intro h;obtain⟨a⟩:=a;exact congrArg ByteArray.mk (Array.size_eq_zero_iff.1 h)
theorem IT{a:ByteArray}(h:a≠⟨#[]⟩):¬a.toList=[]:=fun e=>h (by
 have:=decide_eq_true_iff.1 ((@BB a ⟨#[]⟩).symm.trans (beq_iff_eq.2 (e.trans (by rw[ya]))));exact this)
theorem GY{a:ByteArray}(h:a≠⟨#[]⟩):a.toList.isEmpty=false:=by
 have:=IT h
 cases e:a.toList with
 |nil=>exact absurd e this
 |cons x l=>rfl
theorem G2(n:Int)(w:World):Calls prog 25 #[.int .i64 n] w fun e w'=>e=.returned (.bool (decide (D7 n)))/\w'=w:=by
 have hd:decide (D7 n)=(decide (0<=n)&&decide (n<=100000)):=Bool.decide_and _ _;rw[hd]
 by_cases c1:0<=n
 .have m1:decide (0<=n)=true:=zG c1
  by_cases c2:n<=100000
  .have m2:decide (n<=100000)=true:=zG c2;rw[m1,m2];go_enter func25,ntmps25;go_wp2;go_ret;exact⟨rfl,rfl⟩
  have m2:decide (n<=100000)=false:=zH c2;rw[m1,m2];go_enter func25,ntmps25;go_wp2;go_ret;exact⟨rfl,rfl⟩
 have m1:decide (0<=n)=false:=zH c1;rw[m1,vJ];go_enter func25,ntmps25;go_wp2;go_ret;exact⟨rfl,rfl⟩
theorem Fx(n:Int)(w:World):Calls prog 59 #[.int .i64 n] w fun e w'=>e=.returned (.bool (decide (CV n)))/\w'=w:=by
 have hd:decide (CV n)=(decide (0<=n)&&decide (n<=100)):=Bool.decide_and _ _;rw[hd]
 by_cases c1:0<=n
 .have m1:decide (0<=n)=true:=zG c1
  by_cases c2:n<=100
  .have m2:decide (n<=100)=true:=zG c2;rw[m1,m2];go_enter func59,ntmps59;go_wp2;go_ret;exact⟨rfl,rfl⟩
  have m2:decide (n<=100)=false:=zH c2;rw[m1,m2];go_enter func59,ntmps59;go_wp2;go_ret;exact⟨rfl,rfl⟩
 have m1:decide (0<=n)=false:=zH c1;rw[m1,vJ];go_enter func59,ntmps59;go_wp2;go_ret;exact⟨rfl,rfl⟩
theorem WC(s:ByteArray)(w:World)(hs:s.size<=9223372036854775807):Calls prog 57 #[.string s] w fun e w'=>e=.returned (.bool (decide (IR s)))/\w'=w:=by
 by_cases c:s=⟨#[]⟩
 .subst c;rw[show decide (IR ⟨#[]⟩)=true from zG (.inl rfl)];go_enter func57,ntmps57;go_wp2;go_ret;exact⟨rfl,rfl⟩
 have hR:Hid (decide (IR s)=An s):=by
  have c0:s.size≠0:=fun h=>c (Dn.2 h)
  show decide (IR s)=An s
  rw[xp,ye];exact⟨fun h=>h.resolve_left c0,.inr⟩
 have hE:=IT c;have hF:=GY c;have k:=zh (Ec s w hs);rw[hR.o];go_enter func57,ntmps57
 go_wp2_with fail
 refine k.o.q fun wq hq=>?_;obtain rfl:=hq.symm;go_wp2;go_ret;exact⟨rfl,rfl⟩
def hdV(h:Hd)(A:Option Addr)(c:Nat):List Value:=[.string h.id,.string h.co,.string h.ho,.string h.no,.string h.pl,.slice A h.jo.length c,.int .i64 h.ca,.int .i64 h.vo,.int .i64 h.fr,.int .i64 h.tt]
structure HdSz(h:Hd):Prop where
 id:h.id.size<=140737488355328
 co:h.co.size<=140737488355328
 ho:h.ho.size<=140737488355328
 no:h.no.size<=140737488355328
 pl:h.pl.size<=140737488355328
 jo:h.jo.length<=140737488355328
 js:∀x∈h.jo,x.size<=140737488355328
 ca:-9223372036854775808<=h.ca/\h.ca<=9223372036854775807
 vo:-9223372036854775808<=h.vo/\h.vo<=9223372036854775807
 fr:-9223372036854775808<=h.fr/\h.fr<=9223372036854775807
 tt:-9223372036854775808<=h.tt/\h.tt<=9223372036854775807
theorem Uq(h:Hd)(hz:HdSz h)(A:Option Addr)(c:Nat)(day:Int)(w:World):
 Calls prog 29 #[.agg #[.string h.id,.string h.co,.string h.ho,.string h.no,.string h.pl,.slice A h.jo.length c,.int .i64 h.ca,.int .i64 h.vo,.int .i64 h.fr,.int .i64 h.tt],.int .i64 day] w
  fun e w'=>e=.returned (.bool (decide (BC h day)))/\Below w.heap.size w w':=by
 obtain⟨_,_,_,_,_,_,_,_,_,z1,z2⟩:=hz
 have hR:Hid (decide (BC h day)=(decide (h.fr<=day)&&(decide (h.tt=-1)||decide (day<h.tt)))):=by
  show decide (BC h day)=_
  rw[xp,ye,zr,Bool.or_eq_true,ye,ye,ye];exact wH
 generalize decide (BC h day)=R at hR;obtain⟨id,co,ho,no,pl,jo,ca,vo,fr,tt⟩:=h;simp only[]at z1 z2 ⊢;replace hR:Hid (R=(decide (fr<=day)&&(decide (tt=-1)||decide (day<tt)))):=hR;have hx:Hid (Bk (w.alloc (.cells #[.string id,.string co,.string ho,.string no,.string pl,.slice A jo.length c,.int .i64 ca,.int .i64 vo,.int .i64 fr,.int .i64 tt] 29)) w.heap.size 29 [.string id,.string co,.string ho,.string no,.string pl,.slice A jo.length c,.int .i64 ca,.int .i64 vo,.int .i64 fr,.int .i64 tt]):=Bk.new w _ _;have hB:Hid (Below w.heap.size w (w.alloc (.cells #[.string id,.string co,.string ho,.string no,.string pl,.slice A jo.length c,.int .i64 ca,.int .i64 vo,.int .i64 fr,.int .i64 tt] 29))):=(zI _ w).alloc (zB _) _;have x8:=hx.o.cell (j:=8) rfl;have x9:=hx.o.cell (j:=9) rfl;have xl:=hx.o.lt;clear hx
 by_cases c1:fr<=day
 .have m1:decide (fr<=day)=true:=zG c1
  by_cases c2:tt=-1
  .subst c2;have hQ:Hid (R=true):=by rw[hR.o,m1];rfl
   rw[hQ.o];clear hR;go_enter func29,ntmps29;go_wp2;go_ret;exact⟨rfl,hB.o⟩
  have m2:(tt==-1)=false:=beq_eq_false_iff_ne.2 c2;have m2d:decide (tt=-1)=false:=zH c2
  by_cases c3:day<tt
  .have m3:decide (day<tt)=true:=zG c3;have hQ:Hid (R=true):=by rw[hR.o,m1,m2d,m3];rfl
   rw[hQ.o];clear hR;go_enter func29,ntmps29;go_wp2;go_ret;exact⟨rfl,hB.o⟩
  have m3:decide (day<tt)=false:=zH c3;have hQ:Hid (R=false):=by rw[hR.o,m1,m2d,m3];rfl
  rw[hQ.o];clear hR;go_enter func29,ntmps29;go_wp2;go_ret;exact⟨rfl,hB.o⟩
 have m1:decide (fr<=day)=false:=zH c1;have hQ:Hid (R=false):=by rw[hR.o,m1];rfl
 rw[hQ.o];clear hR;go_enter func29,ntmps29;go_wp2;go_ret;exact⟨rfl,hB.o⟩
theorem IU(b off j:Nat):Addr.add ⟨b,off,none⟩ j=⟨b,off+j,none⟩:=by
 unfold Addr.add
 by_cases h:j=0
 .rw[zF h,h];rfl
 rw[zE h]
theorem InStr.own{W:World}{base g n cap:Nat}{xs:List ByteArray}(h:W.ownsRow base 9 1 (.slice (some ⟨g,0,none⟩) n cap) n (xs.map Value.string)):InStr W (some ⟨g,0,none⟩) xs:=fun h0=>by
 rcases h.2 with⟨h1,_⟩|⟨g',cap',cur,h1,_,hg,_⟩
 .cases h1
 have e:g=g':=by injection h1 with h1;injection h1 with h1;injection h1
 refine⟨g,0,rfl,?_,fun j hj=>?_⟩
 .rw[e];exact(Array.getElem?_eq_some_iff.1 hg).1
 have:=h.cells (g:=g) rfl j (.string xs[j]) (by rw[wY,ze hj];rfl)
 rwa [IU]at this
theorem ff{b:Bool}(h:b=true)(k:b=false):False:=by rw[h]at k;cases k
def κs(x:ByteArray):Lit:=.string x.data.toList
theorem Fa:∀x y:ByteArray,κs x=κs y->x=y:=fun x y h=>by
 injection h with h;obtain⟨x⟩:=x;obtain⟨y⟩:=y;exact congrArg ByteArray.mk (Array.toList_inj.1 h)
theorem G3:Go.Maps.Keyed prog 9:=Go.Maps.Keyed.of_law (WideMaps.string_law underlying9)
theorem ED{x:ByteArray}(h:x.size<=140737488355328):keyOf prog 9 (.string x)=some (κs x):=WideMaps.keyOf_string_mk underlying9 (by unfold maxLen;omega)
theorem Lc(w:World):(zeroValue 4).run prog w=.ok (.bool false) w:=by kernel_rfl
def F3(l:List ByteArray):ByteArray->Option Value:=fun x=>if x∈l then some (.bool true) else none
theorem G4(l:List ByteArray)(x:ByteArray):(F3 l x).getD (.bool false)=.bool (decide (x∈l)):=by
 unfold F3
 by_cases c:x∈l
 .rw[zF c,zG c];rfl
 rw[zE c,zH c];rfl
theorem D9(l:List ByteArray)(x:ByteArray)(m:List ByteArray)(h:∀y,y∈m<->y=x\/y∈l):∀y,Iu (F3 l) x (some (.bool true)) y=F3 m y:=fun y=>by
 unfold F3
 by_cases e:y=x
 .rw[e,Be,zF ((h _).2 (.inl rfl))]
 rw[Bh e]
 by_cases c:y∈l
 .rw[zF c,zF ((h _).2 (.inr c))]
 rw[zE c,zE fun d=>c (((h _).1 d).resolve_left e)]
theorem G5:F3 []=fun _=>none:=by funext x;simp[F3]
def F5(W:World)(b:Nat)(l:List ByteArray)(k:Nat):Prop:=∃c,MapK prog 9 κs W b c (F3 l)/\c<=k
theorem Oz(h : Hd)(hz:HdSz h)(A:Option Addr)(c:Nat)(w:World)(hj:InStr w A h.jo):
 Calls prog 22 #[.agg #[.string h.id,.string h.co,.string h.ho,.string h.no,.string h.pl,.slice A h.jo.length c,.int .i64 h.ca,.int .i64 h.vo,.int .i64 h.fr,.int .i64 h.tt]] w
  fun e w'=>e=.returned (.bool (decide (Proper h)))/\Below w.heap.size w w':=by
 obtain⟨R,hR⟩:∃R,R=decide (Proper h):=⟨_,rfl⟩;have ao:Hid (¬Kj h->R=false):=fun n=>by rw[hR];exact zH fun x=>n x.1
 have aC:Hid (∀k (hk:k<h.jo.length),¬Oy h k hk->R=false):=fun k hk n=>by rw[hR];exact zH fun x=>n (x.2.1 k hk)
 have af:Hid (¬Kl h->R=false):=fun n=>by rw[hR];exact zH fun x=>n x.2.2
 have ar:Hid (Kj h->(∀k (hk:k<h.jo.length),Oy h k hk)->Kl h->R=true):=fun a b c=>by rw[hR];exact zG ⟨a,b,c⟩
 rw[<-hR];clear hR;obtain⟨z0,z1,z2,z3,z4,z5,z6,z7,z8,z9,zt⟩:=hz;have ag:Hid (Kj h<->(An h.id=true/\An h.co=true/\An h.ho=true/\IR h.no/\IR h.pl/\h.jo.length<=4/\(h.no.size=0\/h.jo.length=0))):=wH;have aB:Hid (∀k (hk:k<h.jo.length),Oy h k hk<->(An h.jo[k]=true/\h.jo[k]∉h.ho::h.jo.take k)):=fun _ _=>wH;have aa:Hid (Kl h<->(h.co∉h.ho::h.jo/\h.co≠h.no/\CV h.ca/\CV h.vo/\D7 h.fr/\(h.tt=-1\/D7 h.tt/\h.fr<h.tt))):=wH;generalize Kj h=Q1 at *;generalize Kl h=Q3 at *;generalize al:(fun k (hk:k<h.jo.length)=>Oy h k hk)=JA at *;have aA:∀k (hk:k<h.jo.length),Oy h k hk=JA k hk:=fun k hk=>by rw[<-al]
 simp only[aA]at aC ar aB;clear al aA;obtain⟨id,co,ho,no,pl,jo,ca,vo,fr,tt⟩:=h;simp only[]at z0 z1 z2 z3 z4 z5 z6 z7 z8 z9 zt hj aC ar ag aB aa JA ⊢;have hx:Hid (Bk (w.alloc (.cells #[.string id,.string co,.string ho,.string no,.string pl,.slice A jo.length c,.int .i64 ca,.int .i64 vo,.int .i64 fr,.int .i64 tt] 29)) w.heap.size 29 [.string id,.string co,.string ho,.string no,.string pl,.slice A jo.length c,.int .i64 ca,.int .i64 vo,.int .i64 fr,.int .i64 tt]):=Bk.new w _ _;have ae:Hid (Below w.heap.size w (w.alloc (.cells #[.string id,.string co,.string ho,.string no,.string pl,.slice A jo.length c,.int .i64 ca,.int .i64 vo,.int .i64 fr,.int .i64 tt] 29))):=(zI _ w).alloc (zB _) _;have k1:=Ec id (w.alloc (.cells #[.string id,.string co,.string ho,.string no,.string pl,.slice A jo.length c,.int .i64 ca,.int .i64 vo,.int .i64 fr,.int .i64 tt] 29)) (by omega);obtain⟨b1,e1⟩:∃b,b=An id:=⟨_,rfl⟩;rw[<-e1]at k1;replace k1:=zh k1;replace e1:=zh e1;have k2:=Ec co (w.alloc (.cells #[.string id,.string co,.string ho,.string no,.string pl,.slice A jo.length c,.int .i64 ca,.int .i64 vo,.int .i64 fr,.int .i64 tt] 29)) (by omega);obtain⟨b2,e2⟩:∃b,b=An co:=⟨_,rfl⟩;rw[<-e2]at k2;replace k2:=zh k2;replace e2:=zh e2;have k3:=Ec ho (w.alloc (.cells #[.string id,.string co,.string ho,.string no,.string pl,.slice A jo.length c,.int .i64 ca,.int .i64 vo,.int .i64 fr,.int .i64 tt] 29)) (by omega);obtain⟨b3,e3⟩:∃b,b=An ho:=⟨_,rfl⟩;rw[<-e3]at k3;replace k3:=zh k3;replace e3:=zh e3;have k4:=WC no (w.alloc (.cells #[.string id,.string co,.string ho,.string no,.string pl,.slice A jo.length c,.int .i64 ca,.int .i64 vo,.int .i64 fr,.int .i64 tt] 29)) (by omega);obtain⟨b4,e4⟩:∃b,b=decide (IR no):=⟨_,rfl⟩;rw[<-e4]at k4;replace k4:=zh k4;replace e4:=zh e4;have k5:=WC pl (w.alloc (.cells #[.string id,.string co,.string ho,.string no,.string pl,.slice A jo.length c,.int .i64 ca,.int .i64 vo,.int .i64 fr,.int .i64 tt] 29)) (by omega);obtain⟨b5,e5⟩:∃b,b=decide (IR pl):=⟨_,rfl⟩;rw[<-e5]at k5;replace k5:=zh k5;replace e5:=zh e5;replace z6:=zh z6;replace hj:=zh hj;have x0:=hx.o.c0;have x1:=hx.o.c1;have x2:=hx.o.c2;have x3:=hx.o.c3;have x4:=hx.o.c4;have x5:=hx.o.c5;have x6:=hx.o.c6;have x7:=hx.o.c7;have x8:=hx.o.cell (j:=8) rfl;have x9:=hx.o.cell (j:=9) rfl;have xl:=hx.o.lt;go_enter func22,ntmps22
 go_wp2_with fail
 refine k1.o.q fun wq hq=>?_;obtain rfl:=hq.symm
 cases b1 with
 |false=>
  have hQ:Hid (R=false):=ao.o fun hh=>by have h:=ag.o.1 hh;have h0:=h.1;exact ff h0 e1.o.symm
  go_wp2;go_ret;exact⟨Ad hQ.o.symm,ae.o⟩
 |true=>
  go_wp2_with fail
  refine k2.o.q fun wq hq=>?_;obtain rfl:=hq.symm
  cases b2 with
  |false=>
   have hQ:Hid (R=false):=ao.o fun hh=>by have h:=ag.o.1 hh;have h0:=h.2.1;exact ff h0 e2.o.symm
   go_wp2;go_ret;exact⟨Ad hQ.o.symm,ae.o⟩
  |true=>
   go_wp2_with fail
   refine k3.o.q fun wq hq=>?_;obtain rfl:=hq.symm
   cases b3 with
   |false=>
    have hQ:Hid (R=false):=ao.o fun hh=>by have h:=ag.o.1 hh;have h0:=h.2.2.1;exact ff h0 e3.o.symm
    go_wp2;go_ret;exact⟨Ad hQ.o.symm,ae.o⟩
   |true=>
    go_wp2_with fail
    refine k4.o.q fun wq hq=>?_;obtain rfl:=hq.symm
    cases b4 with
    |false=>
     have hQ:Hid (R=false):=ao.o fun hh=>by have h:=ag.o.1 hh;have h0:=h.2.2.2.1;exact ff (zG h0) e4.o.symm
     go_wp2;go_ret;exact⟨Ad hQ.o.symm,ae.o⟩
    |true=>
     go_wp2_with fail
     refine k5.o.q fun wq hq=>?_;obtain rfl:=hq.symm
     cases b5 with
     |false=>
      have hQ:Hid (R=false):=ao.o fun hh=>by have h:=ag.o.1 hh;have h0:=h.2.2.2.2.1;exact ff (zG h0) e5.o.symm
      go_wp2;go_ret;exact⟨Ad hQ.o.symm,ae.o⟩
     |true=>
      by_cases c6:4<jo.length
      .have m6:decide (4<(jo.length:Int))=true:=zG (by omega);have hQ:Hid (R=false):=ao.o fun hh=>by have h:=(ag.o.1 hh).2.2.2.2.2.1;omega
       go_wp2;go_ret;exact⟨Ad hQ.o.symm,ae.o⟩
      have m6:decide (4<(jo.length:Int))=false:=zH (by omega)
      by_cases c7:no=⟨#[]⟩
      .have hN : Hid (no.size=0):=Dn.1 c7;have hP:Hid Q1:=ag.o.2 ⟨e1.o.symm,e2.o.symm,e3.o.symm,zL e4.o.symm,zL e5.o.symm,by omega,.inl hN.o⟩;have m7:no.toList=[]:=by rw[c7];exact ya _
       replace c7:=zh c7;have aE:=@run_makeMap prog;have av:MapK prog 9 κs ((w.alloc (.cells #[.string id,.string co,.string ho,.string no,.string pl,.slice A jo.length c,.int .i64 ca,.int .i64 vo,.int .i64 fr,.int .i64 tt] 29)).alloc (.map #[] 0)) (w.heap.size+1) 0 (F3 []):=by have h:=MapK.made (w.alloc (.cells #[.string id,.string co,.string ho,.string no,.string pl,.slice A jo.length c,.int .i64 ca,.int .i64 vo,.int .i64 fr,.int .i64 tt] 29)) prog 9 κs;rw[<-G5]at h;simpa using h
       have ax:=ED z2;obtain⟨w3,ah,ad,aq⟩:=av.put Fa G3 underlying60 (by unfold maxLen;omega) ax (.bool true);have aw:Hid (F5 w3 (w.heap.size+1) (ho::jo.take 0) 1):=⟨_,ad.congr (D9 [] ho _ fun y=>by simp),by split<;>omega⟩;have an:Hid (Below w.heap.size w ((w.alloc (.cells #[.string id,.string co,.string ho,.string no,.string pl,.slice A jo.length c,.int .i64 ca,.int .i64 vo,.int .i64 fr,.int .i64 tt] 29)).alloc (.map #[] 0))):=ae.o.alloc ae.o.size _;have au:Hid (Below w.heap.size w w3):=an.o.grown aq an.o.size (fun b e=>by cases e;omega);have ai:Hid (Bk w3 w.heap.size 29 [.string id,.string co,.string ho,.string no,.string pl,.slice A jo.length c,.int .i64 ca,.int .i64 vo,.int .i64 fr,.int .i64 tt]):=(hx.o.alloc _).grown aq (by simp);clear x0 x1 x2 x3 x4 x5 x6 x7 x8 x9 xl av ad aq ax an hx;have v5:=ai.o.c5;have vl:=ai.o.lt;go_wp2;clear aE ah
       go_loopw [61] (fun i wr=>∃k:Nat,k<=jo.length/\i=.int .i64 (k:Int)/\Hid (Below w.heap.size w wr)/\Hid (F5 wr (w.heap.size+1) (ho::jo.take k) (k+1))/\Hid (Bk wr w.heap.size 29 [.string id,.string co,.string ho,.string no,.string pl,.slice A jo.length c,.int .i64 ca,.int .i64 vo,.int .i64 fr,.int .i64 tt])/\Hid (∀j (h:j<jo.length),j<k->JA j h)) (fun i _=>jo.length-(intOf i).toNat)
       case atStart=>exact⟨0,zS _,rfl,au,aw,ai,fun j _ h=>absurd h (yB _)⟩
       case round=>
        obtain⟨k,hk,rfl,hB,hM,hX,hI⟩:=hrel;clear aw au ai ae v5 vl;obtain⟨wz,rfl⟩:∃z,z=wr:=⟨_,rfl⟩;have y1:=hX.o.c1;have y2:=hX.o.c2;have y3:=hX.o.c3;have y6:=hX.o.c6;have y7:=hX.o.c7;have y8:=hX.o.cell (j:=8) rfl;have y9:=hX.o.cell (j:=9) rfl;have yl:=hX.o.lt
        by_cases ak:k<jo.length
        .obtain ⟨b,off,rfl,aO,aI⟩:=(hj.o.below hB.o) (by omega);have e0:=aI k ak;have hs:=z6.o jo[k] (zO ak);have ap:=aB.o k ak;have am:=aC.o k ak;have k0:(0:Int)<=(k:Int):=by omega
         have k1:(k:Int)<(jo.length:Int):=by omega
         have aG:Hid (JA k ak->∀j (h:j<jo.length),j<k+1->JA j h):=fun h j hj h2=>by
          by_cases e:j=k
          .subst e;exact h
          exact hI.o j hj (by omega)
         have az:jo.take (k+1)=jo.take k++[jo[k]]:=zP ak;generalize JA k ak=RA at ap am aG;generalize jo[k]=s at e0 hs ap az;have aj:=ED hs;clear aI;obtain⟨mc,ad,ay⟩:=hM.o;have d:=ad.look G3 underlying60 (Lc _) aj;rw[G4]at d;obtain⟨w9,ah,aH,aD⟩:=ad.put Fa G3 underlying60 (by unfold maxLen;omega) aj (.bool true);have aK:Hid (F5 w9 (w.heap.size+1) (ho::jo.take (k+1)) (k+1+1)):=⟨_,aH.congr (D9 _ s _ fun y=>by rw[az];simp;constructor<;>(intro h;rcases h with h|h|h<;>simp[h])),by split<;>omega⟩;have aJ:Hid (Below w.heap.size w w9):=hB.o.grown aD hB.o.size (fun b e=>by cases e;omega);have aM:Hid (Bk w9 w.heap.size 29 [.string id,.string co,.string ho,.string no,.string pl,.slice (some ⟨b,off,none⟩) jo.length c,.int .i64 ca,.int .i64 vo,.int .i64 fr,.int .i64 tt]):=hX.o.grown aD (by simp);have kc:=zh (Ec s wz (by omega));obtain⟨d1,f1⟩:∃b,b=An s:=⟨_,rfl⟩;obtain⟨d2,f2⟩:∃b,b=decide (s∈ho::jo.take k):=⟨_,rfl⟩;rw[<-f2]at d;rw[<-f1]at kc;replace f1:=zh f1;replace f2:=zh f2;replace ap:=zh ap;replace am:=zh am;replace az:=zh az;clear ad aH aD hM aj
         go_wp2_with fail
         refine kc.o.q fun wq hq=>?_;obtain rfl:=hq.symm
         cases d1 with
         |false=>
          have hQ:Hid (R=false):=am.o fun h=>ff (ap.o.1 h).1 f1.o.symm;clear d ah;go_wp2;go_ret;exact⟨Ad hQ.o.symm,hB.o⟩
         |true=>
          cases d2 with
          |true=>
           have hQ:Hid (R=false):=am.o fun h=>(ap.o.1 h).2 (zL f2.o.symm);clear ah;go_wp2;go_ret;exact⟨Ad hQ.o.symm,hB.o⟩
          |false=>
           have aL:=zh (aG.o (ap.o.2 ⟨f1.o.symm,yA f2.o.symm⟩));go_wp2;exact⟨⟨k+1,by omega,by go_num,aJ,aK,aM,aL⟩,by simp only[intOf];omega⟩
        obtain rfl:k=jo.length:=by omega
        have al:Hid (∀j (h:j<jo.length),JA j h):=fun j h=>hI.o j h h;clear hI;rw[zu]at hM;have aj:=ED z1;obtain⟨mc,ad,ay⟩:=hM.o;have d:=ad.look G3 underlying60 (Lc _) aj;rw[G4]at d;clear ad ay hM aj hX;obtain⟨d2,f2⟩:∃b,b=decide (co∈ho::jo):=⟨_,rfl⟩;rw[<-f2]at d;replace f2:=zh f2
        cases d2 with
        |true=>
         have hQ:Hid (R=false):=af.o fun h=>(aa.o.1 h).1 (zL f2.o.symm);go_wp2;go_ret;exact⟨Ad hQ.o.symm,hB.o⟩
        |false=>
         have c9:co≠no:=fun h=>by have h1:=e2.o;rw[h,c7.o]at h1;cases h1
         have n1:¬co.toList=[]:=by have h:=IT (a:=co) (fun h=>c9 (h.trans c7.o.symm));exact h
         have n2:co.toList.isEmpty=false:=GY (a:=co) (fun h=>c9 (h.trans c7.o.symm));replace c9:=zh c9;have kc:=zh (Fx ca wz);obtain⟨d_ca,f_ca⟩:∃b,b=decide (CV ca):=⟨_,rfl⟩;rw[<-f_ca]at kc;replace f_ca:=zh f_ca
         go_wp2_with fail
         refine kc.o.q fun wq hq=>?_;obtain rfl:=hq.symm
         cases d_ca with
         |false=>
          have hQ:Hid (R=false):=af.o fun hh=>by have h:=aa.o.1 hh;exact ff (zG h.2.2.1) f_ca.o.symm
          go_wp2;go_ret;exact⟨Ad hQ.o.symm,hB.o⟩
         |true=>
          clear kc;have kc:=zh (Fx vo wz);obtain⟨d_vo,f_vo⟩:∃b,b=decide (CV vo):=⟨_,rfl⟩;rw[<-f_vo]at kc;replace f_vo:=zh f_vo
          go_wp2_with fail
          refine kc.o.q fun wq hq=>?_;obtain rfl:=hq.symm
          cases d_vo with
          |false=>
           have hQ:Hid (R=false):=af.o fun hh=>by have h:=aa.o.1 hh;exact ff (zG h.2.2.2.1) f_vo.o.symm
           go_wp2;go_ret;exact⟨Ad hQ.o.symm,hB.o⟩
          |true=>
           clear kc;have kc:=zh (G2 fr wz);obtain⟨d_fr,f_fr⟩:∃b,b=decide (D7 fr):=⟨_,rfl⟩;rw[<-f_fr]at kc;replace f_fr:=zh f_fr
           go_wp2_with fail
           refine kc.o.q fun wq hq=>?_;obtain rfl:=hq.symm
           cases d_fr with
           |false=>
            have hQ:Hid (R=false):=af.o fun hh=>by have h:=aa.o.1 hh;exact ff (zG h.2.2.2.2.1) f_fr.o.symm
            go_wp2;go_ret;exact⟨Ad hQ.o.symm,hB.o⟩
           |true=>
            clear kc
            by_cases c10:tt=-1
            .have hQ:Hid (R=true):=ar.o hP.o (fun j h=>al.o j h) (aa.o.2 ⟨yA f2.o.symm,c9.o,zL f_ca.o.symm,zL f_vo.o.symm,zL f_fr.o.symm,.inl c10⟩);subst c10;go_wp2;go_ret;exact⟨Ad hQ.o.symm,hB.o⟩
            have aN:(tt==-1)=false:=beq_eq_false_iff_ne.2 c10;have kc:=zh (G2 tt wz);obtain⟨d_tt,f_tt⟩:∃b,b=decide (D7 tt):=⟨_,rfl⟩;rw[<-f_tt]at kc;replace f_tt:=zh f_tt;replace c10:=zh c10
            go_wp2_with fail
            refine kc.o.q fun wq hq=>?_;obtain rfl:=hq.symm
            cases d_tt with
            |false=>
             have hQ:Hid (R=false):=af.o fun hh=>by have h:=(aa.o.1 hh).2.2.2.2.2;rcases h with h|h;(· exact c10.o h);(· exact ff (zG h.1) f_tt.o.symm)
             go_wp2;go_ret;exact⟨Ad hQ.o.symm,hB.o⟩
            |true=>
             by_cases c11:fr<tt
             .have aF:decide (fr<tt)=true:=zG c11;have hQ:Hid (R=true):=ar.o hP.o (fun j h=>al.o j h) (aa.o.2 ⟨yA f2.o.symm,c9.o,zL f_ca.o.symm,zL f_vo.o.symm,zL f_fr.o.symm,.inr ⟨zL f_tt.o.symm,c11⟩⟩);go_wp2;go_ret;exact⟨Ad hQ.o.symm,hB.o⟩
             have aF:decide (fr<tt)=false:=zH c11;have hQ:Hid (R=false):=af.o fun hh=>by have h:=(aa.o.1 hh).2.2.2.2.2;rcases h with h|h;(· exact c10.o h);(· exact c11 h.2)
             go_wp2;go_ret;exact⟨Ad hQ.o.symm,hB.o⟩
      have hN:Hid (no.size≠0):=fun h=>c7 (Dn.2 h);have m7:=IT c7;have m7f:=GY c7;replace c7:=zh c7
      by_cases c8:jo.length=0
      .have m8 : ¬ 0<jo.length:=by omega
       have hP:Hid Q1:=ag.o.2 ⟨e1.o.symm,e2.o.symm,e3.o.symm,zL e4.o.symm,zL e5.o.symm,by omega,.inr c8⟩;replace c8:=zh c8;have aE:=@run_makeMap prog;have av:MapK prog 9 κs ((w.alloc (.cells #[.string id,.string co,.string ho,.string no,.string pl,.slice A jo.length c,.int .i64 ca,.int .i64 vo,.int .i64 fr,.int .i64 tt] 29)).alloc (.map #[] 0)) (w.heap.size+1) 0 (F3 []):=by have h:=MapK.made (w.alloc (.cells #[.string id,.string co,.string ho,.string no,.string pl,.slice A jo.length c,.int .i64 ca,.int .i64 vo,.int .i64 fr,.int .i64 tt] 29)) prog 9 κs;rw[<-G5]at h;simpa using h
       have ax:=ED z2;obtain⟨w3,ah,ad,aq⟩:=av.put Fa G3 underlying60 (by unfold maxLen;omega) ax (.bool true);have aw:Hid (F5 w3 (w.heap.size+1) (ho::jo.take 0) 1):=⟨_,ad.congr (D9 [] ho _ fun y=>by simp),by split<;>omega⟩;have an:Hid (Below w.heap.size w ((w.alloc (.cells #[.string id,.string co,.string ho,.string no,.string pl,.slice A jo.length c,.int .i64 ca,.int .i64 vo,.int .i64 fr,.int .i64 tt] 29)).alloc (.map #[] 0))):=ae.o.alloc ae.o.size _;have au:Hid (Below w.heap.size w w3):=an.o.grown aq an.o.size (fun b e=>by cases e;omega);have ai:Hid (Bk w3 w.heap.size 29 [.string id,.string co,.string ho,.string no,.string pl,.slice A jo.length c,.int .i64 ca,.int .i64 vo,.int .i64 fr,.int .i64 tt]):=(hx.o.alloc _).grown aq (by simp);clear x0 x1 x2 x3 x4 x5 x6 x7 x8 x9 xl av ad aq ax an hx;have v5:=ai.o.c5;have vl:=ai.o.lt;go_wp2;clear aE ah
       go_loopw [61] (fun i wr=>∃k:Nat,k<=jo.length/\i=.int .i64 (k:Int)/\Hid (Below w.heap.size w wr)/\Hid (F5 wr (w.heap.size+1) (ho::jo.take k) (k+1))/\Hid (Bk wr w.heap.size 29 [.string id,.string co,.string ho,.string no,.string pl,.slice A jo.length c,.int .i64 ca,.int .i64 vo,.int .i64 fr,.int .i64 tt])/\Hid (∀j (h:j<jo.length),j<k->JA j h)) (fun i _=>jo.length-(intOf i).toNat)
       case atStart=>exact⟨0,zS _,rfl,au,aw,ai,fun j _ h=>absurd h (yB _)⟩
       case round=>
        obtain⟨k,hk,rfl,hB,hM,hX,hI⟩:=hrel;clear aw au ai ae v5 vl;obtain⟨wz,rfl⟩:∃z,z=wr:=⟨_,rfl⟩;have y1:=hX.o.c1;have y2:=hX.o.c2;have y3:=hX.o.c3;have y6:=hX.o.c6;have y7:=hX.o.c7;have y8:=hX.o.cell (j:=8) rfl;have y9:=hX.o.cell (j:=9) rfl;have yl:=hX.o.lt
        by_cases ak:k<jo.length
        .exact absurd ak (by have:=c8.o;omega)
        obtain rfl:k=jo.length:=by omega
        have al:Hid (∀j (h:j<jo.length),JA j h):=fun j h=>hI.o j h h;clear hI;rw[zu]at hM;have aj:=ED z1;obtain⟨mc,ad,ay⟩:=hM.o;have d:=ad.look G3 underlying60 (Lc _) aj;rw[G4]at d;clear ad ay hM aj hX;obtain⟨d2,f2⟩:∃b,b=decide (co∈ho::jo):=⟨_,rfl⟩;rw[<-f2]at d;replace f2:=zh f2
        cases d2 with
        |true=>
         have hQ:Hid (R=false):=af.o fun h=>(aa.o.1 h).1 (zL f2.o.symm);go_wp2;go_ret;exact⟨Ad hQ.o.symm,hB.o⟩
        |false=>
         by_cases c9:co=no
         .have hQ:Hid (R=false):=af.o fun h=>(aa.o.1 h).2.1 c9;subst c9;go_wp2;go_ret;exact⟨Ad hQ.o.symm,hB.o⟩
         have n1:¬co.toList=no.toList:=fun h=>c9 (zL ((@BB co no).symm.trans (beq_iff_eq.2 h)));have n2:(co.toList==no.toList)=false:=(@BB co no).trans (zH c9);replace c9:=zh c9;have kc:=zh (Fx ca wz);obtain⟨d_ca,f_ca⟩:∃b,b=decide (CV ca):=⟨_,rfl⟩;rw[<-f_ca]at kc;replace f_ca:=zh f_ca
         go_wp2_with fail
         refine kc.o.q fun wq hq=>?_;obtain rfl:=hq.symm
         cases d_ca with
         |false=>
          have hQ:Hid (R=false):=af.o fun hh=>by have h:=aa.o.1 hh;exact ff (zG h.2.2.1) f_ca.o.symm
          go_wp2;go_ret;exact⟨Ad hQ.o.symm,hB.o⟩
         |true=>
          clear kc;have kc:=zh (Fx vo wz);obtain⟨d_vo,f_vo⟩:∃b,b=decide (CV vo):=⟨_,rfl⟩;rw[<-f_vo]at kc;replace f_vo:=zh f_vo
          go_wp2_with fail
          refine kc.o.q fun wq hq=>?_;obtain rfl:=hq.symm
          cases d_vo with
          |false=>
           have hQ:Hid (R=false):=af.o fun hh=>by have h:=aa.o.1 hh;exact ff (zG h.2.2.2.1) f_vo.o.symm
           go_wp2;go_ret;exact⟨Ad hQ.o.symm,hB.o⟩
          |true=>
           clear kc;have kc:=zh (G2 fr wz);obtain⟨d_fr,f_fr⟩:∃b,b=decide (D7 fr):=⟨_,rfl⟩;rw[<-f_fr]at kc;replace f_fr:=zh f_fr
           go_wp2_with fail
           refine kc.o.q fun wq hq=>?_;obtain rfl:=hq.symm
           cases d_fr with
           |false=>
            have hQ:Hid (R=false):=af.o fun hh=>by have h:=aa.o.1 hh;exact ff (zG h.2.2.2.2.1) f_fr.o.symm
            go_wp2;go_ret;exact⟨Ad hQ.o.symm,hB.o⟩
           |true=>
            clear kc
            by_cases c10:tt=-1
            .have hQ:Hid (R=true):=ar.o hP.o (fun j h=>al.o j h) (aa.o.2 ⟨yA f2.o.symm,c9.o,zL f_ca.o.symm,zL f_vo.o.symm,zL f_fr.o.symm,.inl c10⟩);subst c10;go_wp2;go_ret;exact⟨Ad hQ.o.symm,hB.o⟩
            have aN:(tt==-1)=false:=beq_eq_false_iff_ne.2 c10;have kc:=zh (G2 tt wz);obtain⟨d_tt,f_tt⟩:∃b,b=decide (D7 tt):=⟨_,rfl⟩;rw[<-f_tt]at kc;replace f_tt:=zh f_tt;replace c10:=zh c10
            go_wp2_with fail
            refine kc.o.q fun wq hq=>?_;obtain rfl:=hq.symm
            cases d_tt with
            |false=>
             have hQ:Hid (R=false):=af.o fun hh=>by have h:=(aa.o.1 hh).2.2.2.2.2;rcases h with h|h;(· exact c10.o h);(· exact ff (zG h.1) f_tt.o.symm)
             go_wp2;go_ret;exact⟨Ad hQ.o.symm,hB.o⟩
            |true=>
             by_cases c11:fr<tt
             .have aF:decide (fr<tt)=true:=zG c11;have hQ:Hid (R=true):=ar.o hP.o (fun j h=>al.o j h) (aa.o.2 ⟨yA f2.o.symm,c9.o,zL f_ca.o.symm,zL f_vo.o.symm,zL f_fr.o.symm,.inr ⟨zL f_tt.o.symm,c11⟩⟩);go_wp2;go_ret;exact⟨Ad hQ.o.symm,hB.o⟩
             have aF:decide (fr<tt)=false:=zH c11;have hQ:Hid (R=false):=af.o fun hh=>by have h:=(aa.o.1 hh).2.2.2.2.2;rcases h with h|h;(· exact c10.o h);(· exact c11 h.2)
             go_wp2;go_ret;exact⟨Ad hQ.o.symm,hB.o⟩
      have m8:0<jo.length:=by omega
      have hQ:Hid (R=false):=ao.o fun hh=>by rcases (ag.o.1 hh).2.2.2.2.2.2 with h|h;(· exact hN.o h);(· exact c8 h)
      go_wp2;go_ret;exact⟨Ad hQ.o.symm,ae.o⟩
end Rg
end
section
open Go.RowKit Go.Shelf Go.Maps Go.Sort
namespace Rg
open Nt Ci
theorem Ur(m:Nat):AnyZ.SortsIn prog Tryz.sortedL_ren Fence.wide m :=
 ⟨fun blk off cap ss W hH d h=>callsIn_wide.2 (AnyM.slices_Sort_string Tryz.sortL blk off cap ss W hH d h),fun p cap W=>callsIn_wide.2 (AnyM.slices_Sort_string_none Tryz.sortL p cap W)⟩
theorem Ld(mb:Option Nat)(W:World):CallsIn Fence.wide 5 prog 110 #[.map mb] W fun e w'=>e=.returned (.func (.func 143) #[] #[.pointer (some ⟨W.heap.size,0,none⟩)])/\w'=W.alloc (.cells #[.map mb] 60) :=
 AnyZ.keys_in Tryz.keysL Fence.wide 5 trivial rfl mb W
theorem Rc{H:Type}(b nn:Nat)(D0:DataW H)(R:Value->Option (DataW H×List MemPlace))(w:World)(h:w.ownsMap prog 9 R b nn D0)(aa:Maps.size D0<=maxLen)(d:Maps.size D0*16<=140737488355328):
 CallsIn Fence.wide 5 prog 109 #[.func (.func 143) #[] #[.pointer (some ⟨w.heap.size,0,none⟩)]] (w.alloc (.cells #[.map (some b)] 60)) fun e w'=>∃(v:Value)(ss:List (List UInt8)),e=.returned v/\ss.Perm (strKeys D0) /\
  w'.ownsRow (w.alloc (.cells #[.map (some b)] 60)).heap.size 9 1 v ss.length ((ss.mergeSort (fun x y=>decide (x<=y))).map encStr)/\(v=.slice none 0 0<->ss=[])/\Below (w.alloc (.cells #[.map (some b)] 60)).heap.size (w.alloc (.cells #[.map (some b)] 60)) w':=by
 have ae:=h.lt
 have ad:SeqGives Fence.wide 2 prog 143 #[.pointer (some ⟨w.heap.size,0,none⟩)] encStr (fun ss=>ss.Perm (strKeys D0)) (Maps.size D0) (w.alloc (.cells #[.map (some b)] 60)) :=
  AnyZ.keys_gives (ρ:=Tryz.keysL_ren) { Tryz.keysL with } Fence.wide _ trivial rfl (by omega) w.heap.size b nn D0 _ (by simp) (by simp) (by
   obtain⟨es,clock,hb,Ft,hs,hD⟩:=h;exact⟨es,clock,(yP _ _ b ae).trans hb,Ft,hs,hD⟩)
 exact AnyZ.sorted_in Tryz.sortedL Fence.wide 5 trivial trivial trivial trivial rfl (by omega) (Ur _) (enters_of func142 (by kernel_rfl) rfl) 143 #[.pointer (some ⟨w.heap.size,0,none⟩)] trivial (enters_of func143 (by kernel_rfl) rfl) _ _ aa d _ ad
theorem Js{P:Program}{k:TypeId}{R:Value->Option (DataW Value×List MemPlace)}{w:World}{b n:Nat}{D:DataW Value}(d:w.ownsMap P k R b n D)(K:Keyed P k)(hk:P.underlying k=some .string):
 (strKeys D).Nodup/\∀x,x∈strKeys D<->has D (.string x)=true:=by
 obtain⟨es,hD,ae,_⟩:=d.entries K;obtain⟨es',h,aa⟩:=d.keysOf;obtain rfl:es=es':=by rw[hD]at h;simpa using h
 subst hD;have key:∀p∈es,∃x,p.1=.string x:=fun p hp=>by obtain⟨v,hv⟩:=aa p hp;obtain⟨x,_,hx,_⟩:=Maps.keyOf_str hk hv;exact⟨x,hx⟩
 constructor
 .refine List.pairwise_map.2 (ae.imp_of_mem fun {p q} hp hq ad e=>ad ?_);obtain⟨a,ha⟩:=key p hp;obtain⟨c,hc⟩:=key q hq;rw[ha,hc]at e ⊢;exact congrArg _ e
 intro x;rw[has_eq,List.any_eq_true]
 show x∈es.map _<->_
 rw[vR];constructor
 .rintro⟨p,hp,rfl⟩;obtain⟨a,ha⟩:=key p hp;exact⟨p,hp,by rw[ha];simp[Lit.sameKey,strOf]⟩
 rintro⟨p,hp,hs⟩;obtain⟨a,ha⟩:=key p hp;rw[ha]at hs;exact⟨p,hp,by rw[ha];simpa [Lit.sameKey,strOf] using hs⟩
def Fr(n:Nat)(A:Option Addr):Prop:=∀b off,A=some ⟨b,off,none⟩->n<=b
theorem ofB(x:ByteArray):(⟨x.data.toList.toArray⟩:ByteArray)=x:=by obtain⟨x⟩:=x;simp
theorem O0(L:List ByteArray)(b k:Nat)(w:World)(hM:F5 w b L k)(hk:k<=100000000):
 Calls prog 60 #[.map (some b)] w fun e w'=>∃ps A c,e=.returned (.slice A ps.length c)/\ps.Pairwise ltB/\(∀x,x∈ps<->x∈L)/\InStr w' A ps/\Below w.heap.size w w'/\Fr w.heap.size A:=by
 obtain⟨c,⟨D,aa,an,hD⟩,hc⟩:=hM;have ae:Maps.size D<=maxLen:=by unfold maxLen;omega
 have d:Maps.size D*16<=140737488355328:=by omega
 have hF:=Js aa G3 underlying9
 have ag:Hid (∀(e:Ending)(w':World)(v:Value)(ss:List (List UInt8)),e=.returned v->ss.Perm (strKeys D)->w'.ownsRow (w.alloc (.cells #[.map (some b)] 60)).heap.size 9 1 v ss.length ((ss.mergeSort (fun x y=>decide (x<=y))).map encStr)->Below w.heap.size w w' ->
  ∃ps A c,e=.returned (.slice A ps.length c)/\ps.Pairwise ltB/\(∀x,x∈ps<->x∈L)/\InStr w' A ps/\Below w.heap.size w w'/\Fr w.heap.size A):=by
  intro e w' v ss he hp ad hb;have ah:(ss.mergeSort (fun x y=>decide (x<=y))).length=ss.length:=(List.mergeSort_perm _ _).length_eq
  have af:∀x:ByteArray,x∈(ss.mergeSort (fun x y=>decide (x<=y))).map (fun x=>(⟨x.toArray⟩:ByteArray))<->x∈L:=fun x=>by
   have h1:x∈(ss.mergeSort (fun x y=>decide (x<=y))).map (fun x=>(⟨x.toArray⟩:ByteArray))<->x.data.toList∈ss:=by
    rw[vR];constructor
    .rintro⟨y,hy,rfl⟩;exact(List.mergeSort_perm _ _).mem_iff.1 hy
    intro h;exact⟨_,(List.mergeSort_perm _ _).mem_iff.2 h,ofB x⟩
   rw[h1,hp.mem_iff,hF.2];have h2:=(hD x).1;rw[show κs x=.string x.data.toList from rfl]at h2;rw[h2];unfold F3
   by_cases c:x∈L
   .rw[zF c];exact⟨fun _=>c,fun _=>rfl⟩
   rw[zE c];exact⟨fun h=>absurd h (by simp),fun h=>absurd h c⟩
  have aj:((ss.mergeSort (fun x y=>decide (x<=y))).map (fun x=>(⟨x.toArray⟩:ByteArray))).Pairwise ltB:=by
   rw[List.pairwise_map];have tr:∀a b c:List UInt8,decide (a<=b)=true->decide (b<=c)=true->decide (a<=c)=true:=fun a b c h1 h2=>by simp only[yC]at *;exact List.le_trans h1 h2
   have tl:∀a b:List UInt8,(decide (a<=b)||decide (b<=a))=true:=fun a b=>by simp only[Bool.or_eq_true,yC];exact List.le_total a b
   have h1:=List.pairwise_mergeSort tr tl ss;have h2:(ss.mergeSort (fun x y=>decide (x<=y))).Nodup:=(List.mergeSort_perm _ _).nodup_iff.2 (hp.nodup_iff.2 hF.1);refine(h1.and h2).imp fun {x y} ⟨h3,h4⟩=>?_
   show x<y
   simp only[yC]at h3;exact Decidable.byContradiction fun h=>h4 (List.le_antisymm h3 h)
  rcases ad.2 with⟨rfl,h0⟩|⟨g,cap,cur,rfl,ai,hg,_⟩
  .have:ss=[]:=List.length_eq_zero_iff.1 h0;subst this;exact⟨[],none,0,he,List.Pairwise.nil,fun x=>by simpa using af x,fun h=>absurd h (by simp),hb,fun b off e=>by cases e⟩
  have hS:InStr w' (some ⟨g,0,none⟩) ((ss.mergeSort (fun x y=>decide (x<=y))).map (fun x=>(⟨x.toArray⟩:ByteArray))):=InStr.own (base:=(w.alloc (.cells #[.map (some b)] 60)).heap.size) (cap:=cap) (n:=ss.length) (by rw[xz];exact ad);exact⟨_,some ⟨g,0,none⟩,cap,by rw[he,zW,ah],aj,af,hS,hb,fun b off e=>by injection e with e;injection e with e;simp at ai;omega⟩
 clear hF hD;replace ae:=zh ae;replace d:=zh d;replace aa:=zh aa;refine(wJ (n:=6)).1 ?_;have al:Fence.wide.fn 110:=trivial;have am:Fence.wide.fn 109:=trivial;refine vW func60 rfl trivial ?_ rfl;simp only[ntmps60,yq,zZ,yR,Nat.reduceAdd,Nat.reduceSub,yW,yX,yv,yj,yM,yY]
 gi_wp2_with (first
  |(gi_at_call 110;refine(Ld _ _).mono ?_;rintro e w' ⟨rfl,rfl⟩)
  |(gi_at_call 109;refine(Rc b c D PY w aa.o ae.o d.o).mono ?_;rintro e w' ⟨v,ss,rfl,hS,ad,ak,hb⟩))
 go_ret;exact ag.o _ _ v ss rfl hS ad (((zI _ w).alloc (zB _) _).trans (hb.mono (by simp)))
end Rg
end
section
open Go.RowKit Go.Shelf
namespace Rg
open Nt Ci
def InHd(W:World)(A:Option Addr)(l:List Hd):Prop :=
 0<l.length->∃b off,A=some ⟨b,off,none⟩/\b<W.heap.size/\∀j (hj:j<l.length),∃Aj cj,InStr W Aj l[j].jo/\∀i v,(hdV l[j] Aj cj)[i]? = some v->W.cell? ⟨b,off+j*10+i,none⟩=some v
theorem InHd.below{W W':World}{A:Option Addr}{l:List Hd}(h:InHd W A l)(hb:Below W.heap.size W W'):InHd W' A l:=fun h0=>by
 obtain⟨b,off,e,hl,hc⟩:=h h0;refine⟨b,off,e,zJ hl hb.size,fun j hj=>?_⟩;obtain⟨Aj,cj,h1,h2⟩:=hc j hj;exact⟨Aj,cj,h1.below hb,fun i v hv=>(hb.cell (p:=⟨b,_,none⟩) hl).trans (h2 i v hv)⟩
theorem IV{P:Program}(w:World){ops:Array Oper}{rest:List Oper}{o:Oper}{a:Act}{Q:Exit->Act->World->Prop}(d:o.guard=none)(s x:Operand)(t:TypeId)
 (ho:o.op=.call { callee:=.builtin .append,args:=#[s,x],argTypes:=#[t,t] }){vs vx:Value}{ty:TypeId}(hs:a.eval s=vs)(hx:a.eval x=vx)(aa:o.type=ty)
 {v':Value}{w':World}(hr:(Builtin.append_ #[t,t] ty #[vs,vx]).run P w=.ok v' w')(h:wpList P ops Q rest (a.put o.dst v') w'):wpList P ops Q (o::rest) a w :=
 wpList_plain d fun _ hK=>by
  unfold Oper.wp execOp;simp only[ho,resolve,invoke,builtin,vn,vS,wX,ws,xS,vi,hs,hx,aa,hr];exact hK _ _ h
theorem Su:(prog.info? 9).map (fun i=>(i.zero,i.size,i.bytes))=some (some (.string ⟨#[]⟩),1,16):=by kernel_rfl
theorem InStr.grown{W W':World}{A:Option Addr}{l:List ByteArray}{row:Option Nat}(h:InStr W A l)(hg:W.grownBy W' row)(d:∀b off,A=some ⟨b,off,none⟩->some b≠row):InStr W' A l:=fun h0=>by
 obtain⟨b,off,e,hl,hc⟩:=h h0;exact⟨b,off,e,zJ hl hg.size,fun j hj=>(hg.cell_far ⟨b,_,none⟩ hl (d b off e)).trans (hc j hj)⟩
theorem Hw(l:List ByteArray):(l.flatMap opt).length<=l.length:=by
 induction l with
 |nil=>exact zB _
 |cons x l ih=>
  rw[List.flatMap_cons,zX,zZ];have:(opt x).length<=1:=by unfold opt;split<;>simp
  omega
theorem Ps(W:World)(B:Nat)(us:List ByteArray)(A:Option Addr)(c:Nat)(jo:List ByteArray)(n:Nat)(hn:us.length=n)(ai:n<=2)(hB:Bk W B 9 (us.map .string))(hj:InStr W A jo)(hl:jo.length<=1000000):
 ∃g cap w',B<=g/\(Builtin.append_ #[23,23] 23 #[.slice (some ⟨B,0,none⟩) n n,.slice A jo.length c]).run prog W=.ok (.slice (some ⟨g,0,none⟩) (n+jo.length) cap) w'/\InStr w' (some ⟨g,0,none⟩) (us++jo)/\W.grownBy w' (some B):=by
 obtain⟨i,hi,ag⟩:=Option.map_eq_some_iff.1 Su;obtain⟨hz,hs,hy⟩:i.zero=some (.string ⟨#[]⟩)/\i.size=1/\i.bytes=16:=by simpa using ag
 cases jo with
 |nil=>
  refine⟨B,n,W,zB _,?_,?_,World.grownBy.refl _ _⟩
  .have h:Src prog i.size 23 (.slice A 0 c) 0 [] W:=by
    cases A with
    |none=>exact Src.ofNil W underlying23 c
    |some a=>exact Src.ofSlice W underlying23 a 0 c [] (by simp) (by simp) (by simp)
   exact run_append_nothing W _ _ _ 9 i underlying23 hi _ n n (zB _) _ h
  intro _;refine⟨B,0,rfl,hB.lt,fun j hj=>?_⟩;rw[yS];have ad:j<us.length:=by simpa using hj
  exact hB.cell (by rw[wY,ze ad];simp)
 |cons x js=>
  obtain⟨b0,off,rfl,ah,aa⟩:=hj (by simp);have d:W.ownsRow B 9 1 (.slice (some ⟨B,0,none⟩) n n) n (us.map .string):=⟨by simp[hn],.inr ⟨B,n,(us.map Value.string).toArray,rfl,zB _,hB,zB _,by unfold maxLen;omega,by simp[hn],by rw[<-hn];exact xA (by simp)⟩⟩
  obtain ⟨g,cap,w',hr,h2,h3,h4,_⟩:=run_append_lies (P:=prog) W 23 23 B 9 i (.string ⟨#[]⟩) 1 16 underlying23 hi hz hs hy rfl (by decide) _ n _ d ⟨b0,off,none⟩ (x::js).length c ((x::js).map Value.string) (by simp)
   (fun j u hu=>by
     rw[wY]at hu
     cases hq:(x::js)[j]? with
     |none=>rw[hq]at hu;cases hu
     |some y=>
      rw[hq]at hu;obtain⟨af,ae⟩:=List.getElem?_eq_some_iff.1 hq;have:=aa j af;rw[ae]at this
      cases hu
      rw[IU];exact this)
   (fun u hu=>by obtain⟨y,_,rfl⟩:=List.mem_map.1 hu;rfl) (by simp) (by unfold maxLen;omega) (by omega) (xF hB.lt) _ rfl
  rw[<-yD]at h2;exact⟨g,cap,w',by rcases h4 with h4|h4;(· injection h4 with h4;exact vP h4);(· have:=hB.lt;omega),hr,InStr.own h2,h3⟩
theorem Hx(l:List Hd)(A0:Option Addr)(cap:Nat)(w:World)(hl:InHd w A0 l)(hz:∀h∈l,HdSz h)(aL:∀h∈l,h.jo.length<=4)(bk:l.length<=140737488355328)(hN:(D8 l).length<=1000000):
 Calls prog 23 #[.slice A0 l.length cap] w fun e w'=>∃ps A c,e=.returned (.slice A ps.length c)/\IsParts l ps/\InStr w' A ps/\Below w.heap.size w w'/\Fr w.heap.size A:=by
 have ba:=@run_makeMap prog;have aV:Hid (F5 (w.alloc (.map #[] 0)) w.heap.size (D8 (l.take 0)) (D8 (l.take 0)).length):=⟨0,by have h:=MapK.made w prog 9 κs;rw[<-G5]at h;exact h,zS _⟩;have aR:Hid (Below w.heap.size w (w.alloc (.map #[] 0))):=(zI _ w).alloc (zB _) _;replace hl:=zh hl;replace hz:=zh hz;replace aL:=zh aL;go_enter func23,ntmps23;go_wp2;clear ba
 go_loopw [11] (fun i wr=>∃k:Nat,k<=l.length/\i=.int .i64 (k:Int)/\Hid (Below w.heap.size w wr)/\Hid (F5 wr w.heap.size (D8 (l.take k)) (D8 (l.take k)).length)) (fun i _=>l.length-(intOf i).toNat)
 case atStart=>exact⟨0,zS _,rfl,aR,aV⟩
 case round=>
  obtain⟨k,hk,rfl,hB,hM⟩:=hrel;clear aV aR;obtain⟨wz,rfl⟩:∃z,z=wr:=⟨_,rfl⟩
  by_cases hlt:k<l.length
  .obtain ⟨b,off,rfl,aa,aW⟩:=hl.o (by omega);obtain⟨A,c,hj,hc⟩:=aW k hlt;clear aW;have bi:b<wz.heap.size:=zJ aa hB.o.size;have a0:=hz.o l[k] (zO hlt);have a8:=aL.o l[k] (zO hlt)
   have aG:(D8 (l.take (k+1))).length<=1000000:=zQ (by
    have h:=congrArg List.length (congrArg D8 (xP (k+1) l));unfold D8 at *;rw[List.flatMap_append,zX]at h;omega) hN
   have ad:D8 (l.take (k+1))=D8 (l.take k)++nms l[k]:=by
    unfold D8;rw[zP hlt,List.flatMap_append,List.flatMap_singleton]
   have k0:(0:Int)<=(k:Int):=by omega
   have k1:(k:Int)<(l.length:Int):=by omega
   generalize l[k]=h at hc hj a0 ad a8;have e0:=(hB.o.cell (p:=⟨b,_,none⟩) aa).trans (hc 0 _ rfl);have e1:=(hB.o.cell (p:=⟨b,_,none⟩) aa).trans (hc 1 _ rfl);have e2:=(hB.o.cell (p:=⟨b,_,none⟩) aa).trans (hc 2 _ rfl);have e3:=(hB.o.cell (p:=⟨b,_,none⟩) aa).trans (hc 3 _ rfl);have e4:=(hB.o.cell (p:=⟨b,_,none⟩) aa).trans (hc 4 _ rfl);have e5:=(hB.o.cell (p:=⟨b,_,none⟩) aa).trans (hc 5 _ rfl);have e6:=(hB.o.cell (p:=⟨b,_,none⟩) aa).trans (hc 6 _ rfl);have e7:=(hB.o.cell (p:=⟨b,_,none⟩) aa).trans (hc 7 _ rfl);have e8:=(hB.o.cell (p:=⟨b,_,none⟩) aa).trans (hc 8 _ rfl);have e9:=(hB.o.cell (p:=⟨b,_,none⟩) aa).trans (hc 9 _ rfl);simp only[xM]at e0;obtain⟨Na,aH⟩:∃x,x=D8 (l.take k):=⟨_,rfl⟩;obtain⟨Nb,aq⟩:∃x,x=D8 (l.take (k+1)):=⟨_,rfl⟩;rw[<-aH]at hM ad;rw[<-aq]at ad aG;have bh:Na.length+(nms h).length<=1000000:=by rw[ad,zX]at aG;exact aG
   obtain⟨z0,z1,z2,z3,z4,z5,z6,z7,z8,z9,zt⟩:=a0;obtain⟨w1,ax⟩:∃x,x=wz.alloc (.cells #[.string h.id,.string h.co,.string h.ho,.string h.no,.string h.pl,.slice A h.jo.length c,.int .i64 h.ca,.int .i64 h.vo,.int .i64 h.fr,.int .i64 h.tt] 29):=⟨_,rfl⟩;have hx:Hid (Bk w1 wz.heap.size 29 [.string h.id,.string h.co,.string h.ho,.string h.no,.string h.pl,.slice A h.jo.length c,.int .i64 h.ca,.int .i64 h.vo,.int .i64 h.fr,.int .i64 h.tt]):=by rw[ax];exact Bk.new wz _ _
   have aS:Hid (Below w.heap.size w w1):=by rw[ax];exact hB.o.alloc hB.o.size _
   obtain⟨mc,ai,aN⟩:=hM.o;have aX:Hid (mc<=Na.length):=aN;replace aN:mc<=1000000:=zQ aN (by omega);have aE:MapK prog 9 κs w1.drew w.heap.size mc (F3 Na):=by rw[ax];exact(ai.alloc _).drew
   obtain⟨w3,aP,aj,au⟩:=aE.put Fa G3 underlying60 (by unfold maxLen;omega) (ED z1) (.bool true);replace aj:=aj.congr (D9 _ h.co (h.co::Na) fun y=>by simp);obtain⟨w4,aQ,ae,av⟩:=aj.put Fa G3 underlying60 (by unfold maxLen;split<;>omega) (ED z2) (.bool true);replace ae:=ae.congr (D9 _ h.ho (h.ho::h.co::Na) fun y=>by simp);have x1:=hx.o.c1;have x2:=hx.o.c2;have xl:=hx.o.lt;have ay:Hid (Bk w3 wz.heap.size 29 [.string h.id,.string h.co,.string h.ho,.string h.no,.string h.pl,.slice A h.jo.length c,.int .i64 h.ca,.int .i64 h.vo,.int .i64 h.fr,.int .i64 h.tt]):=Bk.grown (W:=w1.drew) hx.o au (by have:=ai.lt;have:=hB.o.size;simp;omega);have y2:=ay.o.c2;have yl:=ay.o.lt;replace aH:=zh aH;replace aq:=zh aq;replace ad:=zh ad;replace hc:=zh hc;replace hj:=zh hj;replace ai:=zh ai;replace aE:=zh aE;replace aj:=zh aj;replace ae:=zh ae;replace au:=zh au;replace av:=zh av;subst ax;go_wp2;go_region;have an:Hid (Bk w4 wz.heap.size 29 [.string h.id,.string h.co,.string h.ho,.string h.no,.string h.pl,.slice A h.jo.length c,.int .i64 h.ca,.int .i64 h.vo,.int .i64 h.fr,.int .i64 h.tt]):=ay.o.grown av.o (by have:=ai.o.lt;have:=hB.o.size;simp;omega);have aT:Hid (Below w.heap.size w w3):=aS.o.drew.grown au.o (by have:=aS.o.size;simpa using this) (fun b e=>by cases e;exact zB _);have ao:Hid (Below w.heap.size w w4):=aT.o.grown av.o aT.o.size (fun b e=>by cases e;exact zB _);have bg:Hid (InStr w4 A h.jo):=hj.o.below ao.o;clear x1 x2 xl y2 yl hx ay aP aQ;have v3:=an.o.c3;have v4:=an.o.c4;have v5:=an.o.c5;have vl:=an.o.lt;have aC:Hid (Below w.heap.size w (w4.alloc (.cells #[.string h.no,.string h.pl] 9))):=ao.o.alloc ao.o.size _;have a2:Hid (InStr (w4.alloc (.cells #[.string h.no,.string h.pl] 9)) A h.jo):=hj.o.below aC.o;have a9:h.jo.length<=1000000:=by omega
   obtain⟨g,cp,w6,a6,aw,ah,aJ⟩:=Ps _ w4.heap.size [h.no,h.pl] A c h.jo 2 rfl (by decide) (Bk.new w4 9 [.string h.no,.string h.pl]) a2.o a9;have aU:Hid (Below w.heap.size w w6):=aC.o.grown aJ aC.o.size (fun b e=>by cases e;exact ao.o.size);have a3:Hid (MapK prog 9 κs w6 w.heap.size _ (F3 (h.ho::h.co::Na))):=(ae.o.alloc _).kept aJ (by have:=ae.o.lt;simp;omega);clear aJ;have a7:Hid (w.heap.size<g):=by have:=ae.o.lt;show _<_;omega
   clear a6;replace aw:=zh aw;replace ah:=zh ah
   go_wp2_with (at_builtin;refine IV _ rfl _ _ 23 rfl rfl rfl rfl aw.o ?_)
   clear v3 v4 v5 vl aw an;have aD:Hid (F5 w6 w.heap.size ((h.ho::h.co::Na)++(([h.no,h.pl]++h.jo).take 0).flatMap opt) ((h.ho::h.co::Na)++(([h.no,h.pl]++h.jo).take 0).flatMap opt).length):=⟨_,by simpa using a3.o,by have:=aX.o;simp;split<;>split<;>omega⟩;obtain⟨xs,af⟩:∃x,x=[h.no,h.pl]++h.jo:=⟨_,rfl⟩;have bc:xs.length=2+h.jo.length:=by rw[af];simp;omega
   have bd:Hid (∀x∈xs,x.size<=140737488355328):=fun x hx=>by
    rw[af]at hx;simp only[yY,yM,xC]at hx
    rcases hx with rfl|rfl|hx
    .exact z3
    .exact z4
    exact z6 x hx
   rw[<-af]at aD;replace ah:Hid (InStr w6 (some ⟨g,0,none⟩) xs):=by rw[af];exact ah.o
   replace af:=zh af;obtain⟨n2,aY⟩:∃n,n=xs.length:=⟨_,rfl⟩;have aZ:2+h.jo.length=n2:=by omega
   have aO:Hid (n2=xs.length):=aY;have bm:n2<=1000002:=by omega
   have aB:(2:Int)+(h.jo.length:Int)=(n2:Int):=by omega
   rw[aZ,aB];clear aY aZ bc aB
   go_loopw [30] (fun i wr=>∃j:Nat,j<=n2/\i=.int .i64 (j:Int)/\Hid (Below w.heap.size w wr)/\Hid (InStr wr (some ⟨g,0,none⟩) xs)/\Hid (F5 wr w.heap.size ((h.ho::h.co::Na)++(xs.take j).flatMap opt) ((h.ho::h.co::Na)++(xs.take j).flatMap opt).length)) (fun i _=>n2-(intOf i).toNat)
   case atStart=>exact⟨0,zS _,rfl,aU,ah,aD⟩
   case round=>
    obtain⟨j,bj,rfl,ap,aI,aF⟩:=hrel;clear aD ah aU;obtain⟨wy,rfl⟩:∃z,z=wr:=⟨_,rfl⟩
    by_cases hlt2:j<n2
    .have aM:j<xs.length:=by have:=aO.o;omega
     obtain⟨b2,off2,ar,be,aA⟩:=aI.o (by omega);obtain⟨rfl,rfl⟩:g=b2/\0=off2:=by injection ar with ar;injection ar with h1 h2;exact⟨h1,h2⟩
     have f0:=aA j aM;have hs:=bd.o xs[j] (zO aM);have i0:(0:Int)<=(j:Int):=by omega
     have i1:(j:Int)<(n2:Int):=by omega
     have am:xs.take (j+1)=xs.take j++[xs[j]]:=zP aM;generalize xs[j]=s at f0 hs am;simp only[yS]at f0;clear aA ar;replace am:=zh am
     by_cases cs:s=⟨#[]⟩
     .have m1:s.toList=[]:=by rw[cs];exact ya _
      have ag:Hid (F5 wy w.heap.size ((h.ho::h.co::Na)++(xs.take (j+1)).flatMap opt) ((h.ho::h.co::Na)++(xs.take (j+1)).flatMap opt).length):=by
       have:(xs.take (j+1)).flatMap opt=(xs.take j).flatMap opt:=by rw[am.o,List.flatMap_append,List.flatMap_singleton,show opt s=[] from zF (by rw[cs];rfl),xV]
       rw[this];exact aF
      replace cs:=zh cs;go_wp2;exact⟨⟨j+1,by omega,by go_num,ap,aI,ag⟩,by simp only[intOf];omega⟩
     have m1:=IT cs;have m2:=GY cs;have c0:s.size≠0:=fun h=>cs (Dn.2 h);replace cs:=zh cs;obtain⟨md,ak,al⟩:=aF.o
     have bf:md<=10000000:=by
      have h1:=Hw (xs.take j);rw[zX,zZ,zZ]at al;rw[xI]at h1;have:=aO.o;omega
     obtain⟨w8,bb,az,aK⟩:=ak.put Fa G3 underlying60 (by unfold maxLen;omega) (ED hs) (.bool true)
     have ag:Hid (F5 w8 w.heap.size ((h.ho::h.co::Na)++(xs.take (j+1)).flatMap opt) ((h.ho::h.co::Na)++(xs.take (j+1)).flatMap opt).length):=by
      have e:(h.ho::h.co::Na)++(xs.take (j+1)).flatMap opt=((h.ho::h.co::Na)++(xs.take j).flatMap opt)++[s]:=by
       rw[am.o,List.flatMap_append,List.flatMap_singleton,xr];simp[opt,c0]
      rw[e];exact⟨_,az.congr (D9 _ s _ fun y=>by rw[yc,xE];exact Or.comm),by rw[zX];split<;>simp at al ⊢<;>omega⟩
     have a1:Hid (Below w.heap.size w w8):=ap.o.grown aK ap.o.size (fun b e=>by cases e;exact zB _);have a4:Hid (InStr w8 (some ⟨g,0,none⟩) xs):=InStr.grown aI.o aK fun b off e=>by injection e with e;injection e with e;have:=a7.o;intro c;injection c;omega
     clear ak az aK;go_wp2;exact⟨⟨j+1,by omega,by go_num,a1,a4,ag⟩,by simp only[intOf];omega⟩
    obtain rfl:j=n2:=by omega
    have ag:Hid (F5 wy w.heap.size Nb Nb.length):=by
     obtain⟨md,ak,al⟩:=aF.o;rw[aO.o,zu,af.o]at ak al
     have em:∀y,y∈(h.ho::h.co::Na)++([h.no,h.pl]++h.jo).flatMap opt<->y∈Nb:=fun y=>by
      rw[ad.o];simp[nms,List.flatMap_cons];constructor<;>(intro h;rcases h with h|h|h|h|h|h<;>simp[h])
     have el:((h.ho::h.co::Na)++([h.no,h.pl]++h.jo).flatMap opt).length=Nb.length:=by
      rw[ad.o];simp[nms,List.flatMap_cons];omega
     refine⟨md,ak.congr fun y=>?_,by rw[<-el];exact al⟩;unfold F3
     by_cases c:y∈Nb
     .rw[zF c,zF ((em y).2 c)]
     rw[zE c,zE fun d=>c ((em y).1 d)]
    go_wp2;rw[aq.o]at ag;exact⟨⟨k+1,by omega,by go_num,ap,ag⟩,by simp only[intOf];omega⟩
  obtain rfl:k=l.length:=by omega
  rw[zu]at hM;have kc:=zh (O0 (D8 l) w.heap.size _ wz hM.o (by omega))
  go_wp2_with fail
  refine kc.o.mono ?_;rintro e w' ⟨ps,A,c,rfl,hp,hm,hS,hb,a5⟩;go_wp2;go_ret;exact⟨ps,A,c,rfl,⟨hp,hm⟩,hS,hB.o.trans (hb.mono hB.o.size),fun b off e=>zQ hB.o.size (a5 b off e)⟩
theorem Eo(f:Hd->Int){l:List Hd}{k:Nat}(h:k<l.length)(day:Int)(c:ByteArray):
 AY f (l.take (k+1)) day c=AY f (l.take k) day c+(if BC l[k] day/\l[k].co=c then f l[k] else 0):=by
 unfold AY;rw[zP h,yQ,yD,List.sum_append]
 congr 1
 by_cases e:BC l[k] day/\l[k].co=c
 .rw[zF e,zk,zF (by rw[zG e.1,zG e.2];rfl)];simp
 rw[zE e,zk,zE (by intro q;rw[zr]at q;exact e ⟨zL q.1,zL q.2⟩)];simp
theorem Fb{f:Hd->Int}{l:List Hd}(h:∀x∈l,0<=f x)(day:Int)(c:ByteArray):0<=AY f l day c:=by
 unfold AY
 induction l with
 |nil=>exact Int.le_refl _
 |cons x l ih=>
  have h1:=h x zf;have h2:=ih fun y hy=>h y (zY _ hy);rw[zk]
  split
  .rw[xS,List.sum_cons];omega
  exact h2
theorem Km{f:Hd->Int}{l:List Hd}(h:∀x∈l,0<=f x)(day:Int)(c:ByteArray)(k:Nat):AY f (l.take k) day c<=AY f l day c:=by
 have e:AY f l day c=AY f (l.take k) day c+AY f (l.drop k) day c:=by
  conv=>lhs;rw[<-xP k l]
  unfold AY;rw[yQ,yD,List.sum_append]
 have:=Fb (f:=f) (l:=l.drop k) (fun x hx=>h x (wW hx)) day c;omega
def GZ(l:List Hd)(day:Int):ByteArray->Option Value:=fun c=>
 if (l.any fun h=>decide (BC h day)&&decide (h.co=c))=true then some (.agg #[.int .i64 (AY Hd.ca l day c),.int .i64 (AY Hd.vo l day c)]) else none
theorem Us(l:List Hd)(day:Int)(c:ByteArray):(GZ l day c).getD (.agg #[.int .i64 0,.int .i64 0])=.agg #[.int .i64 (AY Hd.ca l day c),.int .i64 (AY Hd.vo l day c)]:=by
 unfold GZ
 by_cases e:(l.any fun h=>decide (BC h day)&&decide (h.co=c))=true
 .rw[zF e];rfl
 rw[zE e];have:l.filter (fun h=>decide (BC h day)&&decide (h.co=c))=[]:=List.filter_eq_nil_iff.2 fun x hx hq=>e (List.any_eq_true.2 ⟨x,hx,hq⟩);unfold AY;rw[this];rfl
theorem Rd{l:List Hd}{k:Nat}(h:k<l.length)(day:Int)(hr:¬BC l[k] day):GZ (l.take (k+1)) day=GZ (l.take k) day:=by
 funext c
 have h1:∀f:Hd->Int,AY f (l.take (k+1)) day c=AY f (l.take k) day c:=fun f=>by rw[Eo _ h,zE (fun q=>hr q.1),Int.add_zero]
 unfold GZ;rw[h1,h1,zP h,List.any_append];simp[hr]
theorem Ut{l:List Hd}{k:Nat}(h:k<l.length)(day:Int)(hr:BC l[k] day):∀c,Iu (GZ (l.take k) day) l[k].co (some (.agg #[.int .i64 (AY Hd.ca (l.take k) day l[k].co+l[k].ca),.int .i64 (AY Hd.vo (l.take k) day l[k].co+l[k].vo)])) c=GZ (l.take (k+1)) day c:=fun c=>by
 by_cases e:c=l[k].co
 .subst e;rw[Be];have h1:∀f:Hd->Int,AY f (l.take (k+1)) day l[k].co=AY f (l.take k) day l[k].co+f l[k]:=fun f=>by rw[Eo _ h,zF ⟨hr,rfl⟩]
  unfold GZ;rw[h1,h1,zF];rw[zP h,List.any_append];simp[hr]
 rw[Bh e];have h1:∀f:Hd->Int,AY f (l.take (k+1)) day c=AY f (l.take k) day c:=fun f=>by rw[Eo _ h,zE (fun q=>e q.2.symm),Int.add_zero]
 unfold GZ;rw[h1,h1,zP h,List.any_append];have:decide (l[k].co=c)=false:=zH fun q=>e q.symm;simp[this]
def Wd(W:World)(b:Nat)(l:List Hd)(day:Int)(k:Nat):Prop:=∃c,MapK prog 9 κs W b c (GZ l day)/\c<=k
theorem Uu(w:World):(zeroValue 120).run prog w=.ok (.agg #[.int .i64 0,.int .i64 0]) w:=by kernel_rfl
theorem X6(l:List Hd)(A0:Option Addr)(cap lb:Nat)(day:Int)(w:World)(hl:InHd w A0 l)(hz:∀h∈l,HdSz h)(hp:∀h∈l,CV h.ca/\CV h.vo)(aV:l.length<=1000000)(aO:w.cell? ⟨lb,0,none⟩=some (.slice A0 l.length cap))(aF:lb<w.heap.size):
 Calls prog 61 #[.int .i64 day,.pointer (some ⟨lb,0,none⟩)] w fun e w'=>e=.returned (.bool (decide (DN l day)))/\Below w.heap.size w w':=by
 have aP:=@run_makeMap prog;obtain⟨R,hR⟩:∃R,R=decide (DN l day):=⟨_,rfl⟩
 have aM:Hid (∀k (h:k<l.length),(100<AY Hd.ca (l.take (k+1)) day l[k].co\/100<AY Hd.vo (l.take (k+1)) day l[k].co)->R=false):=fun k h q=>by
  rw[hR];refine zH fun b=>?_;have h1:=b l[k] (zO h);have h2:=Km (f:=Hd.ca) (l:=l) (fun x hx=>(hp x hx).1.1) day l[k].co (k+1);have h3:=Km (f:=Hd.vo) (l:=l) (fun x hx=>(hp x hx).2.1) day l[k].co (k+1);omega
 have aN:Hid ((∀c,AY Hd.ca l day c<=100/\AY Hd.vo l day c<=100)->R=true):=fun q=>by
  rw[hR];exact zG fun x _=>q x.co
 rw[<-hR];clear hR;have aQ:Hid (∀k c,(0<=AY Hd.ca (l.take k) day c)/\0<=AY Hd.vo (l.take k) day c):=fun k c=>⟨Fb (fun x hx=>(hp x (yE hx)).1.1) _ _,Fb (fun x hx=>(hp x (yE hx)).2.1) _ _⟩;have aC:Hid (Wd (w.alloc (.map #[] 0)) w.heap.size (l.take 0) day 0):=⟨0,by have h:=MapK.made w prog 9 κs;exact h.congr fun x=>by simp[GZ],zB _⟩;have av:Hid (Below w.heap.size w (w.alloc (.map #[] 0))):=(zI _ w).alloc (zB _) _;have aE:(w.alloc (.map #[] 0)).cell? ⟨lb,0,none⟩=some (.slice A0 l.length cap):=(av.o.cell (p:=⟨lb,0,none⟩) aF).trans aO;replace hl:=zh hl;replace hz:=zh hz;replace hp:=zh hp;go_enter func61,ntmps61;go_wp2;clear aP aE
 go_loopw [11] (fun i wr=>∃k:Nat,k<=l.length/\i=.int .i64 (k:Int)/\Hid (Below w.heap.size w wr)/\Hid (Wd wr w.heap.size (l.take k) day k)/\Hid (∀c,AY Hd.ca (l.take k) day c<=100/\AY Hd.vo (l.take k) day c<=100)) (fun i _=>l.length-(intOf i).toNat)
 case atStart=>exact⟨0,zS _,rfl,av,aC,fun c=>by simp[AY]⟩
 case round=>
  obtain⟨k,hk,rfl,hB,hM,hI⟩:=hrel;clear aC av;obtain⟨wz,rfl⟩:∃z,z=wr:=⟨_,rfl⟩
  by_cases hlt:k<l.length
  .obtain ⟨b,off,rfl,ad,aD⟩:=hl.o (by omega);obtain⟨A,c,hj,hc⟩:=aD k hlt;clear aD;have aU:b<wz.heap.size:=zJ ad hB.o.size;have aG:=hz.o l[k] (zO hlt);have aR:=hp.o l[k] (zO hlt);have ah:=aM.o k hlt;have ag:=Rd hlt day;have ai:=Ut hlt day;have am:=fun c=>Eo Hd.ca hlt day c;have an:=fun c=>Eo Hd.vo hlt day c;have aT:=aQ.o k l[k].co;have aS:=hI.o l[k].co;have k0:(0:Int)<=(k:Int):=by omega
   have k1:(k:Int)<(l.length:Int):=by omega
   generalize l[k]=h at *;have e0:=(hB.o.cell (p:=⟨b,_,none⟩) ad).trans (hc 0 _ rfl);have e1:=(hB.o.cell (p:=⟨b,_,none⟩) ad).trans (hc 1 _ rfl);have e2:=(hB.o.cell (p:=⟨b,_,none⟩) ad).trans (hc 2 _ rfl);have e3:=(hB.o.cell (p:=⟨b,_,none⟩) ad).trans (hc 3 _ rfl);have e4:=(hB.o.cell (p:=⟨b,_,none⟩) ad).trans (hc 4 _ rfl);have e5:=(hB.o.cell (p:=⟨b,_,none⟩) ad).trans (hc 5 _ rfl);have e6:=(hB.o.cell (p:=⟨b,_,none⟩) ad).trans (hc 6 _ rfl);have e7:=(hB.o.cell (p:=⟨b,_,none⟩) ad).trans (hc 7 _ rfl);have e8:=(hB.o.cell (p:=⟨b,_,none⟩) ad).trans (hc 8 _ rfl);have e9:=(hB.o.cell (p:=⟨b,_,none⟩) ad).trans (hc 9 _ rfl);simp only[xM]at e0;have ao:=aG;obtain⟨z0,z1,z2,z3,z4,z5,z6,z7,z8,z9,zt⟩:=aG;obtain⟨⟨p1,p2⟩,p3,p4⟩:=aR;obtain⟨aj,ae⟩:∃x,x=AY Hd.ca (l.take k) day h.co:=⟨_,rfl⟩;obtain⟨ak,af⟩:∃x,x=AY Hd.vo (l.take k) day h.co:=⟨_,rfl⟩;rw[<-ae,<-af]at aT aS ai;have hx:Hid (Bk (wz.alloc (.cells #[.string h.id,.string h.co,.string h.ho,.string h.no,.string h.pl,.slice A h.jo.length c,.int .i64 h.ca,.int .i64 h.vo,.int .i64 h.fr,.int .i64 h.tt] 29)) wz.heap.size 29 [.string h.id,.string h.co,.string h.ho,.string h.no,.string h.pl,.slice A h.jo.length c,.int .i64 h.ca,.int .i64 h.vo,.int .i64 h.fr,.int .i64 h.tt]):=Bk.new wz _ _;have aB:Hid (Below w.heap.size w (wz.alloc (.cells #[.string h.id,.string h.co,.string h.ho,.string h.no,.string h.pl,.slice A h.jo.length c,.int .i64 h.ca,.int .i64 h.vo,.int .i64 h.fr,.int .i64 h.tt] 29))):=hB.o.alloc hB.o.size _;have kr:=zh (Uq h ao A c day (wz.alloc (.cells #[.string h.id,.string h.co,.string h.ho,.string h.no,.string h.pl,.slice A h.jo.length c,.int .i64 h.ca,.int .i64 h.vo,.int .i64 h.fr,.int .i64 h.tt] 29)));obtain⟨mc,aI,aW⟩:=hM.o;have aJ:Hid (MapK prog 9 κs (wz.alloc (.cells #[.string h.id,.string h.co,.string h.ho,.string h.no,.string h.pl,.slice A h.jo.length c,.int .i64 h.ca,.int .i64 h.vo,.int .i64 h.fr,.int .i64 h.tt] 29)) w.heap.size mc (GZ (l.take k) day)):=aI.alloc _;obtain⟨d,hd⟩:∃x,x=decide (BC h day):=⟨_,rfl⟩;rw[<-hd]at kr;replace hd:=zh hd;replace ah:=zh ah;replace ag:=zh ag;replace ai:=zh ai;replace am:=zh am;replace an:=zh an;replace ae:=zh ae;replace af:=zh af;replace ao:=zh ao;replace hc:=zh hc;replace hj:=zh hj;have xl:=hx.o.lt
   go_wp2_with fail
   refine kr.o.q fun w3 az=>?_;have aw:Hid (Below w.heap.size w w3):=aB.o.trans (az.mono aB.o.size);have ay:Hid (MapK prog 9 κs w3 w.heap.size mc (GZ (l.take k) day)):=aJ.o.below az;have au:Hid (Bk w3 wz.heap.size 29 [.string h.id,.string h.co,.string h.ho,.string h.no,.string h.pl,.slice A h.jo.length c,.int .i64 h.ca,.int .i64 h.vo,.int .i64 h.fr,.int .i64 h.tt]):=hx.o.below az;clear xl e0 e1 e2 e3 e4 e5 e6 e7 e8 e9
   cases d with
   |false=>
    have aK:Hid (Wd w3 w.heap.size (l.take (k+1)) day (k+1)):=⟨mc,by rw[ag.o (yA hd.o.symm)];exact ay.o,by omega⟩
    have ax:Hid (∀c,AY Hd.ca (l.take (k+1)) day c<=100/\AY Hd.vo (l.take (k+1)) day c<=100):=fun c=>by
     rw[am.o,an.o,zE fun q=>yA hd.o.symm q.1,zE fun q=>yA hd.o.symm q.1,Int.add_zero,Int.add_zero];exact hI.o c
    go_wp2;exact⟨⟨k+1,by omega,by go_num,aw,aK,ax⟩,by simp only[intOf];omega⟩
   |true=>
    have aa:=zL hd.o.symm;have aA:=ay.o.look G3 underlying118 (Uu _) (ED z1);rw[Us,<-ae.o,<-af.o]at aA;have y1:=au.o.c1;have y6:=au.o.c6;have y7:=au.o.c7;have yl:=au.o.lt;have e1:AY Hd.ca (l.take (k+1)) day h.co=aj+h.ca:=by rw[am.o,zF ⟨aa,rfl⟩,<-ae.o]
    have e2:AY Hd.vo (l.take (k+1)) day h.co=ak+h.vo:=by rw[an.o,zF ⟨aa,rfl⟩,<-af.o]
    have ap:Hid (Below w.heap.size w (w3.alloc (.cells #[.int .i64 (aj+h.ca),.int .i64 (ak+h.vo)] 120))):=aw.o.alloc aw.o.size _;obtain⟨w5,al,aq,ar⟩:=(ay.o.alloc (.cells #[.int .i64 (aj+h.ca),.int .i64 (ak+h.vo)] 120)).put Fa G3 underlying118 (by unfold maxLen;omega) (ED z1) (.agg #[.int .i64 (aj+h.ca),.int .i64 (ak+h.vo)]);have aL:Hid (Wd w5 w.heap.size (l.take (k+1)) day (k+1)):=⟨_,aq.congr (ai.o aa),by split<;>omega⟩;have aH:Hid (Below w.heap.size w w5):=ap.o.grown ar ap.o.size (fun b e=>by cases e;exact zB _)
    by_cases c1:100<aj+h.ca
    .have hQ:Hid (R=false):=ah.o (.inl (by omega));replace aa:=zh aa;replace e1:=zh e1;replace e2:=zh e2;clear aq ar al;go_wp2;go_ret;exact⟨Ad hQ.o.symm,ap.o⟩
    have c1':aj+h.ca<=100:=by omega
    by_cases c2:100<ak+h.vo
    .have hQ:Hid (R=false):=ah.o (.inr (by omega));replace aa:=zh aa;replace e1:=zh e1;replace e2:=zh e2;clear aq ar al;go_wp2;go_ret;exact⟨Ad hQ.o.symm,ap.o⟩
    have c2':ak+h.vo<=100:=by omega
    have ax:Hid (∀c,AY Hd.ca (l.take (k+1)) day c<=100/\AY Hd.vo (l.take (k+1)) day c<=100):=fun c=>by
     by_cases e:h.co=c
     .rw[<-e,e1,e2];exact⟨c1',c2'⟩
     rw[am.o,an.o,zE fun q=>e q.2,zE fun q=>e q.2,Int.add_zero,Int.add_zero];exact hI.o c
    replace aa:=zh aa;replace e1:=zh e1;replace e2:=zh e2;clear aq ar;go_wp2;exact⟨⟨k+1,by omega,by go_num,aH,aL,ax⟩,by simp only[intOf];omega⟩
  obtain rfl:k=l.length:=by omega
  have hQ:Hid (R=true):=aN.o fun c=>by have:=hI.o c;rwa [zu]at this
  go_wp2;go_ret;exact⟨Ad hQ.o.symm,hB.o⟩
structure BeIn(w:World)(l:List Hd)(A0:Option Addr)(cap lb ob:Nat):Prop where
 r:InHd w A0 l
 z:∀h∈l,HdSz h
 p:∀h∈l,CV h.ca/\CV h.vo
 n:l.length<=1000000
 b:w.cell? ⟨lb,0,none⟩=some (.slice A0 l.length cap)
 bl:lb<w.heap.size
 o:w.cell? ⟨ob,0,none⟩=some (.func (.func 61) #[] #[.pointer (some ⟨lb,0,none⟩)])
 ol:ob<w.heap.size
theorem BeIn.below{w w':World}{l:List Hd}{A0:Option Addr}{cap lb ob:Nat}(h:BeIn w l A0 cap lb ob)(hb:Below w.heap.size w w'):BeIn w' l A0 cap lb ob :=
 ⟨h.r.below hb,h.z,h.p,h.n,(hb.cell (p:=⟨lb,0,none⟩) h.bl).trans h.b,zJ h.bl hb.size,(hb.cell (p:=⟨ob,0,none⟩) h.ol).trans h.o,zJ h.ol hb.size⟩
theorem We(l:List Hd)(A0:Option Addr)(cap lb ob:Nat)(h:Hd)(hz:HdSz h)(A:Option Addr)(c:Nat)(w:World)(hI:BeIn w l A0 cap lb ob):
 Calls prog 63 #[.agg #[.string h.id,.string h.co,.string h.ho,.string h.no,.string h.pl,.slice A h.jo.length c,.int .i64 h.ca,.int .i64 h.vo,.int .i64 h.fr,.int .i64 h.tt],.pointer (some ⟨ob,0,none⟩)] w fun e w'=>e=.returned (.bool (!decide (DN l h.fr)))/\Below w.heap.size w w':=by
 have aa:Hid (Below w.heap.size w (w.alloc (.cells #[.string h.id,.string h.co,.string h.ho,.string h.no,.string h.pl,.slice A h.jo.length c,.int .i64 h.ca,.int .i64 h.vo,.int .i64 h.fr,.int .i64 h.tt] 29))):=(zI _ w).alloc (zB _) _;have hx:Hid (Bk (w.alloc (.cells #[.string h.id,.string h.co,.string h.ho,.string h.no,.string h.pl,.slice A h.jo.length c,.int .i64 h.ca,.int .i64 h.vo,.int .i64 h.fr,.int .i64 h.tt] 29)) w.heap.size 29 [.string h.id,.string h.co,.string h.ho,.string h.no,.string h.pl,.slice A h.jo.length c,.int .i64 h.ca,.int .i64 h.vo,.int .i64 h.fr,.int .i64 h.tt]):=Bk.new w _ _;have d:=hI.below aa.o;have ko:=zh (X6 l A0 cap lb h.fr _ d.r d.z d.p d.n d.b d.bl);have o1:=d.o;have ol:=d.ol;have x8:=hx.o.cell (j:=8) rfl;have xl:=hx.o.lt;obtain⟨z1,z2⟩:=hz.fr;generalize decide (DN l h.fr)=R at ko;clear hI d hx;obtain⟨id,co,ho,no,pl,jo,ca,vo,fr,tt⟩:=h;simp only[]at z1 z2 aa ko o1 ol x8 xl ⊢;go_enter func63,ntmps63
 go_wp2_with fail
 refine ko.o.q fun w' hb=>?_;go_wp2;go_ret;exact⟨rfl,aa.o.trans (hb.mono aa.o.size)⟩
theorem Re(l:List Hd)(A0:Option Addr)(cap lb ob:Nat)(w:World)(hI:BeIn w l A0 cap lb ob):
 Calls prog 111 #[.slice A0 l.length cap,.func (.func 63) #[] #[.pointer (some ⟨ob,0,none⟩)]] w fun e w'=>(∃i:Int,e=.returned (.int .i64 i)/\decide (0<=i)=!decide (Ce l))/\Below w.heap.size w w':=by
 have kb:=zh (fun(h:Hd) (hm:h∈l) A c W (hw:Below w.heap.size w W)=>We l A0 cap lb ob h (hI.z h hm) A c W (hI.below hw));have hn:=hI.n;have hl:=zh hI.r;have ah:Hid (∀k (h:k<l.length),¬DN l l[k].fr->decide (Ce l)=false):=fun k h n=>zH fun q=>n (q _ (zO h));have ai:Hid ((∀k (h:k<l.length),DN l l[k].fr)->decide (Ce l)=true):=fun q=>zG fun x hx=>by obtain⟨i,hi,rfl⟩:=zi hx;exact q i hi
 have hz:=zh hI.z;generalize decide (Ce l)=R at *;clear hI;go_enter func111,ntmps111;go_wp2
 go_loopw [8] (fun i wr=>∃k:Nat,k<=l.length/\i=.int .i64 (k:Int)/\Hid (Below w.heap.size w wr)/\Hid (∀j (h:j<l.length),j<k->DN l l[j].fr)) (fun i _=>l.length-(intOf i).toNat)
 case atStart=>exact⟨0,zS _,rfl,zI _ _,fun j _ h=>absurd h (yB _)⟩
 case round=>
  obtain⟨k,hk,rfl,hB,hS⟩:=hrel;obtain⟨wz,rfl⟩:∃z,z=wr:=⟨_,rfl⟩
  by_cases hlt:k<l.length
  .obtain ⟨b,off,rfl,aa,ag⟩:=hl.o (by omega);obtain⟨A,c,_,hc⟩:=ag k hlt;clear ag;have al:b<wz.heap.size:=zJ aa hB.o.size;have kc:=kb.o l[k] (zO hlt) A c wz hB.o;have ad:=ah.o k hlt
   have ae:Hid (DN l l[k].fr->∀j (h:j<l.length),j<k+1->DN l l[j].fr):=fun h j hj h2=>by
    by_cases e:j=k
    .subst e;exact h
    exact hS.o j hj (by omega)
   obtain⟨d,hd⟩:∃x,x=decide (DN l l[k].fr):=⟨_,rfl⟩;rw[<-hd]at kc;have k0:(0:Int)<=(k:Int):=by omega
   have k1:(k:Int)<(l.length:Int):=by omega
   generalize l[k]=h at hc kc ad ae hd;have e0:=(hB.o.cell (p:=⟨b,_,none⟩) aa).trans (hc 0 _ rfl);have e1:=(hB.o.cell (p:=⟨b,_,none⟩) aa).trans (hc 1 _ rfl);have e2:=(hB.o.cell (p:=⟨b,_,none⟩) aa).trans (hc 2 _ rfl);have e3:=(hB.o.cell (p:=⟨b,_,none⟩) aa).trans (hc 3 _ rfl);have e4:=(hB.o.cell (p:=⟨b,_,none⟩) aa).trans (hc 4 _ rfl);have e5:=(hB.o.cell (p:=⟨b,_,none⟩) aa).trans (hc 5 _ rfl);have e6:=(hB.o.cell (p:=⟨b,_,none⟩) aa).trans (hc 6 _ rfl);have e7:=(hB.o.cell (p:=⟨b,_,none⟩) aa).trans (hc 7 _ rfl);have e8:=(hB.o.cell (p:=⟨b,_,none⟩) aa).trans (hc 8 _ rfl);have e9:=(hB.o.cell (p:=⟨b,_,none⟩) aa).trans (hc 9 _ rfl);simp only[xM]at e0;replace kc:=zh kc;replace hd:=zh hd;replace ad:=zh ad;replace hc:=zh hc
   go_wp2_with fail
   refine kc.o.q fun w3 ak=>?_;have af:Hid (Below w.heap.size w w3):=hB.o.trans (ak.mono hB.o.size)
   cases d with
   |false=>
    have hQ:Hid (R=false):=ad.o (yA hd.o.symm);go_wp2;go_ret;exact⟨⟨k,rfl,by rw[hQ.o];exact zG k0⟩,af.o⟩
   |true=>
    have aj:Hid (∀j (h:j<l.length),j<k+1->DN l l[j].fr):=ae.o (zL hd.o.symm);go_wp2;exact⟨⟨k+1,by omega,by go_num,af,aj⟩,by simp only[intOf];omega⟩
  obtain rfl:k=l.length:=by omega
  have hQ:Hid (R=true):=ai.o fun j h=>hS.o j h h;go_wp2;go_ret;exact⟨⟨-1,rfl,by rw[hQ.o];rfl⟩,hB.o⟩
theorem Dd(l:List Hd)(A0:Option Addr)(cap lb ob:Nat)(w:World)(hI:BeIn w l A0 cap lb ob):
 Calls prog 62 #[.slice A0 l.length cap,.func (.func 63) #[] #[.pointer (some ⟨ob,0,none⟩)]] w fun e w'=>e=.returned (.bool (!decide (Ce l)))/\Below w.heap.size w w':=by
 have kc:=zh (Re l A0 cap lb ob w hI);clear hI;go_enter func62,ntmps62
 go_wp2_with fail
 refine kc.o.mono ?_;rintro e w' ⟨⟨i,rfl,hi⟩,hb⟩;go_wp2;go_ret;exact⟨rfl,hb⟩
theorem Le(l:List Hd)(A0:Option Addr)(cap:Nat)(w:World)(hl:InHd w A0 l)(hz:∀h∈l,HdSz h)(hp:∀h∈l,CV h.ca/\CV h.vo)(aa:l.length<=1000000):
 Calls prog 24 #[.slice A0 l.length cap] w fun e w'=>e=.returned (.bool (decide (Ce l)))/\Below w.heap.size w w':=by
 have d:Hid (Below w.heap.size w ((w.alloc (.cells #[.slice A0 l.length cap] 22)).alloc (.cells #[.func (.func 61) #[] #[.pointer (some ⟨w.heap.size,0,none⟩)]] 63))):=((zI _ w).alloc (zB _) _).alloc (by simp) _
 have hI:Hid (BeIn ((w.alloc (.cells #[.slice A0 l.length cap] 22)).alloc (.cells #[.func (.func 61) #[] #[.pointer (some ⟨w.heap.size,0,none⟩)]] 63)) l A0 cap w.heap.size (w.heap.size+1)) :=
  ⟨hl.below d.o,hz,hp,aa,by simp,by simp;omega,by simp,by simp⟩
 have kc:=zh (Dd l A0 cap w.heap.size (w.heap.size+1) _ hI.o);have f2:Bk ((w.alloc (.cells #[.slice A0 l.length cap] 22)).alloc (.cells #[.nilFunc] 63)) (w.heap.size+1) 63 [.nilFunc]:=by have h:=Bk.new (w.alloc (.cells #[.slice A0 l.length cap] 22)) 63 [.nilFunc];simpa using h
 have c1:=f2.c0;have c2:=f2.frozen 0;have c3:=f2.lt;clear f2;generalize decide (Ce l)=R at kc;go_enter func24,ntmps24
 go_wp2_with fail
 refine kc.o.q fun w' hb=>?_;go_wp2;go_ret;exact⟨by simp,d.o.trans (hb.mono d.o.size)⟩
def X7(V:Prop)(w:World)(e:Ending)(w':World):Prop:=∃r:Bool,e=.returned (.bool r)/\(r=true<->V)/\Below w.heap.size w w'
theorem X8(h:Hd):(nms h).length<=4+h.jo.length:=by
 unfold nms;have h1:(opt h.no).length<=1:=by unfold opt;split<;>simp
 have h2:(opt h.pl).length<=1:=by unfold opt;split<;>simp
 have h3:=Hw h.jo;simp only[zZ,zX];omega
theorem Pt{l:List Hd}(h:∀x∈l,x.jo.length<=4):(D8 l).length<=8*l.length:=by
 induction l with
 |nil=>exact zB _
 |cons x l ih=>
  have h1:=X8 x;have h2:=h x zf;have h3:=ih fun y hy=>h y (zY _ hy);unfold D8 at *;rw[List.flatMap_cons,zX,zZ];omega
theorem Kn(l:List Hd)(A0:Option Addr)(cap:Nat)(w:World)(hl:InHd w A0 l)(hz:∀h∈l,HdSz h)(aN:l.length<=1000000):
 Calls prog 7 #[.slice A0 l.length cap] w (X7 (Valid l) w):=by
 have aO:=@run_makeMap prog;have aI:Hid (∀k (h:k<l.length),¬IS l k h->(false=true<->Valid l)):=fun k h n=>⟨fun q=>(Bool.false_ne_true q).elim,fun q=>absurd (q.1 k h) n⟩;have aJ:Hid (¬l.length<=400->(false=true<->Valid l)):=fun n=>⟨fun q=>(Bool.false_ne_true q).elim,fun q=>absurd q.2.1 n⟩;have aK:Hid (∀ps,IsParts l ps->¬ps.length<=60->(false=true<->Valid l)):=fun ps h n=>⟨fun q=>(Bool.false_ne_true q).elim,fun q=>absurd (q.2.2.1 ps h) n⟩
 have aL:Hid (∀ps,(∀k (h:k<l.length),IS l k h)->l.length<=400->IsParts l ps->ps.length<=60->(decide (Ce l)=true<->Valid l)):=fun ps h1 h2 h3 h4=>
  ⟨fun q=>⟨h1,h2,fun qs h=>by rw[h.unique h3 fun _=>wH];exact h4,zL q⟩,fun q=>zG q.2.2.2⟩
 have az:Hid (∀k (h:k<l.length),IS l k h<->(Proper l[k]/\l[k].id∉(l.take k).map Hd.id)):=fun _ _=>wH;generalize Valid l=V at *;have aw:Hid (F5 (w.alloc (.map #[] 0)) w.heap.size ((l.take 0).map Hd.id) 0):=⟨0,by have h:=MapK.made w prog 9 κs;rw[<-G5]at h;exact h,zS _⟩;have av:Hid (Below w.heap.size w (w.alloc (.map #[] 0))):=(zI _ w).alloc (zB _) _;replace hl:=zh hl;replace hz:=zh hz;go_enter func7,ntmps7;go_wp2;clear aO
 go_loopw [9] (fun i wr=>∃k:Nat,k<=l.length/\i=.int .i64 (k:Int)/\Hid (Below w.heap.size w wr)/\Hid (F5 wr w.heap.size ((l.take k).map Hd.id) k)/\Hid (∀j (h:j<l.length),j<k->IS l j h)) (fun i _=>l.length-(intOf i).toNat)
 case atStart=>exact⟨0,zS _,rfl,av,aw,fun j _ h=>absurd h (yB _)⟩
 case round=>
  obtain⟨k,hk,rfl,hB,hM,hI⟩:=hrel;clear aw av;obtain⟨wz,rfl⟩:∃z,z=wr:=⟨_,rfl⟩
  by_cases ag:k<l.length
  .obtain ⟨b,off,rfl,aa,aA⟩:=hl.o (by omega);obtain⟨A,c,hj,hc⟩:=aA k ag;clear aA;have aP:b<wz.heap.size:=zJ aa hB.o.size;have am:=hz.o l[k] (zO ag);have ae:=aI.o k ag;have af:=az.o k ag
   have au:Hid (IS l k ag->∀j (h:j<l.length),j<k+1->IS l j h):=fun h j hj h2=>by
    by_cases e:j=k
    .subst e;exact h
    exact hI.o j hj (by omega)
   have ao:(l.take (k+1)).map Hd.id=(l.take k).map Hd.id++[l[k].id]:=by rw[zP ag,yD];rfl
   have k0:(0:Int)<=(k:Int):=by omega
   have k1:(k:Int)<(l.length:Int):=by omega
   generalize IS l k ag=HA at ae af au;generalize l[k]=h at hc am af hj ao;have e0:=(hB.o.cell (p:=⟨b,_,none⟩) aa).trans (hc 0 _ rfl);have e1:=(hB.o.cell (p:=⟨b,_,none⟩) aa).trans (hc 1 _ rfl);have e2:=(hB.o.cell (p:=⟨b,_,none⟩) aa).trans (hc 2 _ rfl);have e3:=(hB.o.cell (p:=⟨b,_,none⟩) aa).trans (hc 3 _ rfl);have e4:=(hB.o.cell (p:=⟨b,_,none⟩) aa).trans (hc 4 _ rfl);have e5:=(hB.o.cell (p:=⟨b,_,none⟩) aa).trans (hc 5 _ rfl);have e6:=(hB.o.cell (p:=⟨b,_,none⟩) aa).trans (hc 6 _ rfl);have e7:=(hB.o.cell (p:=⟨b,_,none⟩) aa).trans (hc 7 _ rfl);have e8:=(hB.o.cell (p:=⟨b,_,none⟩) aa).trans (hc 8 _ rfl);have e9:=(hB.o.cell (p:=⟨b,_,none⟩) aa).trans (hc 9 _ rfl);simp only[xM]at e0;have zid:=am.id;have hx:Hid (Bk (wz.alloc (.cells #[.string h.id,.string h.co,.string h.ho,.string h.no,.string h.pl,.slice A h.jo.length c,.int .i64 h.ca,.int .i64 h.vo,.int .i64 h.fr,.int .i64 h.tt] 29)) wz.heap.size 29 [.string h.id,.string h.co,.string h.ho,.string h.no,.string h.pl,.slice A h.jo.length c,.int .i64 h.ca,.int .i64 h.vo,.int .i64 h.fr,.int .i64 h.tt]):=Bk.new wz _ _;have aq:Hid (Below w.heap.size w (wz.alloc (.cells #[.string h.id,.string h.co,.string h.ho,.string h.no,.string h.pl,.slice A h.jo.length c,.int .i64 h.ca,.int .i64 h.vo,.int .i64 h.fr,.int .i64 h.tt] 29))):=hB.o.alloc hB.o.size _;have kp:=zh (Oz h am A c _ (hj.below aq.o));obtain⟨mc,aE,aQ⟩:=hM.o;have aF:Hid (MapK prog 9 κs (wz.alloc (.cells #[.string h.id,.string h.co,.string h.ho,.string h.no,.string h.pl,.slice A h.jo.length c,.int .i64 h.ca,.int .i64 h.vo,.int .i64 h.fr,.int .i64 h.tt] 29)) w.heap.size mc (F3 ((l.take k).map Hd.id))):=aE.alloc _;obtain⟨d,hd⟩:∃x,x=decide (Proper h):=⟨_,rfl⟩;rw[<-hd]at kp;replace hd:=zh hd;replace ae:=zh ae;replace af:=zh af;replace hc:=zh hc;replace hj:=zh hj;replace am:=zh am;replace ao:=zh ao;have x0:=hx.o.c0;have x1:=hx.o.c1;have x2:=hx.o.c2;have x3:=hx.o.c3;have x4:=hx.o.c4;have x5:=hx.o.c5;have x6:=hx.o.c6;have x7:=hx.o.c7;have x8:=hx.o.cell (j:=8) rfl;have x9:=hx.o.cell (j:=9) rfl;have xl:=hx.o.lt
   go_wp2_with fail
   refine kp.o.q fun w3 ai=>?_;have ad:Hid (Below w.heap.size w w3):=aq.o.trans (ai.mono aq.o.size);have ax:Hid (MapK prog 9 κs w3 w.heap.size mc (F3 ((l.take k).map Hd.id))):=aF.o.below ai;have aC:Hid (Bk w3 wz.heap.size 29 [.string h.id,.string h.co,.string h.ho,.string h.no,.string h.pl,.slice A h.jo.length c,.int .i64 h.ca,.int .i64 h.vo,.int .i64 h.fr,.int .i64 h.tt]):=hx.o.below ai;clear x0 x1 x2 x3 x4 x5 x6 x7 x8 x9 xl e0 e1 e2 e3 e4 e5 e6 e7 e8 e9
   cases d with
   |false=>
    have hQ:Hid (false=true<->V):=ae.o fun q=>yA hd.o.symm (af.o.1 q).1;go_wp2;go_ret;exact⟨_,rfl,hQ.o,ad.o⟩
   |true=>
    have ak:=ax.o.look G3 underlying60 (Lc _) (ED zid);rw[G4]at ak;obtain⟨w5,ar,ay,aB⟩:=ax.o.put Fa G3 underlying60 (by unfold maxLen;omega) (ED zid) (.bool true);have aG:Hid (F5 w5 w.heap.size ((l.take (k+1)).map Hd.id) (k+1)):=⟨_,ay.congr (D9 _ h.id _ fun y=>by rw[ao.o,yc,xE];exact Or.comm),by split<;>omega⟩;have aD:Hid (Below w.heap.size w w5):=ad.o.grown aB ad.o.size (fun b e=>by cases e;exact zB _);have y0:=aC.o.c0;have yl:=aC.o.lt;obtain⟨d2,aj⟩:∃x,x=decide (h.id∈(l.take k).map Hd.id):=⟨_,rfl⟩;rw[<-aj]at ak;replace aj:=zh aj;clear ay aB
    cases d2 with
    |true=>
     have hQ:Hid (false=true<->V):=ae.o fun q=>(af.o.1 q).2 (zL aj.o.symm);clear ar;go_wp2;go_ret;exact⟨_,rfl,hQ.o,ad.o⟩
    |false=>
     have aH:=zh (au.o (af.o.2 ⟨zL hd.o.symm,yA aj.o.symm⟩));go_wp2;exact⟨⟨k+1,by omega,by go_num,aD,aG,aH⟩,by simp only[intOf];omega⟩
  obtain rfl:k=l.length:=by omega
  have ap:Hid (∀j (h:j<l.length),IS l j h):=fun j h=>hI.o j h h;clear hI
  by_cases h4:l.length<=400
  .have al:∀x∈l,Proper x:=fun x hx=>by obtain⟨i,hi,rfl⟩:=zi hx;exact((az.o i hi).1 (ap.o i hi)).1
   have an:∀x∈l,x.jo.length<=4:=fun x hx=>(al x hx).1.2.2.2.2.2.1;have hN:=Pt an;have kp:=zh (fun W (hb:Below w.heap.size w W)=>Hx l A0 cap W (hl.o.below hb) hz.o an (by omega) (by omega));have kb:=zh (fun W (hb:Below w.heap.size w W)=>Le l A0 cap W (hl.o.below hb) hz.o (fun x hx=>⟨(al x hx).2.2.2.2.1,(al x hx).2.2.2.2.2.1⟩) aN);replace al:=zh al;replace an:=zh an
   go_wp2_with fail
   refine(kp.o _ hB.o).mono ?_;rintro e w3 ⟨ps,A,c,rfl,ah,hS,ai,_⟩;have ad:Hid (Below w.heap.size w w3):=hB.o.trans (ai.mono hB.o.size);replace hS:=zh hS
   by_cases h6:ps.length<=60
   .have hQ:=zh (aL.o ps ap.o h4 ah h6);replace ah:=zh ah
    go_wp2_with fail
    refine(kb.o _ ad.o).q fun w5 aM=>?_;go_wp2;go_ret;exact⟨_,rfl,hQ.o,ad.o.trans (aM.mono ad.o.size)⟩
   have hQ:=zh (aK.o ps ah h6);have m6:60<ps.length:=by omega
   replace ah:=zh ah;go_wp2;go_ret;exact⟨_,rfl,hQ.o,ad.o⟩
  have hQ:=zh (aJ.o h4);have m4:400<l.length:=by omega
  go_wp2;go_ret;exact⟨_,rfl,hQ.o,hB.o⟩
theorem My(a b:ByteArray):Op.bytesLess a.toList b.toList=decide (ltB a b):=by
 rw[bytesLess_eq,ya,ya];rfl
theorem Yz{ps:List ByteArray}(hp:ps.Pairwise ltB){k:Nat}(hk:k<ps.length):
 Lib.bsGo (fun t=>Op.bytesLess (ps.getD t ps[k]).toList ps[k].toList) ps.length 0 ps.length=k:=by
 have get:∀t (h:t<ps.length),ps.getD t ps[k]=ps[t]:=fun t h=>by rw[yH,ze h];rfl
 have irr:∀a,¬ltB a a:=fun a h=>EZ a a h h;refine Lib.bsGo_spec _ k (fun t ht=>?_) (fun t ht=>?_) _ _ _ (by omega) (by omega) (by omega)
 .rw[My,get t (by omega)];exact zG (List.pairwise_iff_getElem.1 hp t k (by omega) hk ht)
 rw[My];refine zH fun h=>?_
 by_cases e:t<ps.length
 .rw[get t e]at h
  by_cases e2:t=k
  .subst e2;exact irr _ h
  exact EZ _ _ h (List.pairwise_iff_getElem.1 hp k t hk e (by omega))
 rw[yH,List.getElem?_eq_none (by omega)]at h;exact irr _ h
theorem FL(ps:List ByteArray)(b off c k:Nat)(hk:k<ps.length)(w:World)(hc:∀j (h:j<ps.length),w.cell? ⟨b,off+j,none⟩=some (.string ps[j]))(hp:ps.Pairwise ltB)(hl:ps.length<=1000000):
 Calls prog 27 #[.slice (some ⟨b,off,none⟩) ps.length c,.string ps[k]] w fun e w'=>e=.returned (.tuple #[.int .i64 (k:Int),.bool true])/\∃q,w'=w.drewN q:=by
 have h:=Any2.slices_BinarySearch_string Tryz.bsL b off ps.length c (fun t=>ps.getD t ps[k]) ps[k] w (by omega) (fun j hj=>by rw[yH,ze hj];exact hc j hj);rw[Yz hp hk,zG ⟨hk,by rw[yH,ze hk];rfl⟩]at h;exact h
theorem Rf(ps:List ByteArray)(A:Option Addr)(c sb k:Nat)(hk:k<ps.length)(w:World)(hS:InStr w A ps)(hp:ps.Pairwise ltB)(hl:ps.length<=1000000)(hc:w.cell? ⟨sb,0,none⟩=some (.slice A ps.length c)):
 Calls prog 26 #[.string ps[k],.pointer (some ⟨sb,0,none⟩)] w fun e w'=>e=.returned (.int .i64 (k:Int))/\∃q,w'=w.drewN q:=by
 obtain⟨b,off,rfl,h,d⟩:=hS (by omega);have ks:=zh (FL ps b off c k hk w d hp hl);clear d hp;generalize ps[k]=s at ks;go_enter func26,ntmps26
 go_wp2_with fail
 refine ks.o.mono ?_;rintro e w' ⟨rfl,q,rfl⟩;go_wp2;go_ret;exact⟨rfl,q,rfl⟩
end Rg
end
section
open Go.RowKit Go.Shelf Go.ChangeMaps
namespace Rg
open Nt Ci
def H9(n:Int):Prop:=-9223372036854775808<=n/\n<=9223372036854775807
def Kk:={ x:Int×Int // H9 x.1/\H9 x.2 }
instance:DecidableEq Kk:=fun a b=>decidable_of_iff (a.1=b.1) Subtype.ext_iff.symm
def κk(x:Kk):Lit:=.string (keyBytes [.int .i64 x.1.1,.int .i64 x.1.2])
theorem X9(P:Program)(m:Nat)(t ti:TypeId)(f1 f2:Field)(hu:P.underlying t=some (.struct #[f1, f2]))(hc:P.cellsOf t=2)(n1:f1.name≠"_")(n2:f2.name≠"_")(o1:f1.offset=0)(o2:f2.offset=1)(t1:f1.type=ti)(t2:f2.type=ti)
 (ui:P.underlying ti=some (.int .i64))(ci:P.cellsOf ti=1)(a b:Int)(ha:(Lit.int .i64 a).wf=true)(hb:(Lit.int .i64 b).wf=true):
 P.keyLits (m+2) t [.int .i64 a,.int .i64 b]=some [.int .i64 a,.int .i64 b]:=by
 subst t1;simp[Program.keyLits,hu,hc,n1,n2,o1,o2,ui,ci,t2,ha,hb]
theorem Mz{P:Program}{t:TypeId}{fs:Array Field}{cs:Array Value}{ls:List Lit}{m:Nat}(hu:P.underlying t=some (.struct fs))(hk:P.keyType t=true)(hf:(Value.agg cs).formed P t=true)(hm:P.types.size+1=m+2)(hl:P.keyLits (m+2) t (Value.agg cs).cells.toList=some ls):
 keyOf P t (.agg cs)=some (.string (keyBytes ls)):=by
 unfold keyOf;rw[hu];simp only[hk,hf,Bool.and_true,vG,hm,hl,Option.map_some]
theorem Uv:laidOutB prog=true:=by kernel_rfl
theorem Y0:(69:TypeId)<prog.types.size:=zL (by kernel_rfl)
theorem Y1:(match prog.underlying 69 with|some (.array _ _)|some (.struct _)=>true|_=>false)=true:=by rw[underlying69]
theorem Y2:prog.keyTypeAt 2 69=true:=by kernel_rfl
theorem Y3:WideMaps.KeyLaw prog 69:=deep_law_laid Uv (m:=2) (Nat.le_of_ble_eq_true rfl) Y0 Y2 Y1
theorem FW:Go.Maps.Keyed prog 69:=Go.Maps.Keyed.of_law Y3
theorem O1:prog.cellsOf 69=2:=by kernel_rfl
theorem Pu:prog.cellsOf 3=1:=by kernel_rfl
theorem Uw:prog.keyType 69=true:=by kernel_rfl
theorem WD:∃m,prog.types.size+1=m+2:=by
 have h:=Y0;generalize prog.types.size=n at h;exact⟨n-1,by have:=zn (zS _) h;omega⟩
theorem M7(x:Kk):keyOf prog 69 (.agg #[.int .i64 x.1.1,.int .i64 x.1.2])=some (κk x):=by
 obtain⟨⟨a,b⟩,h1,h2⟩:=x;have hf:(Value.agg #[.int .i64 a,.int .i64 b]).formed prog 69=true:=by simp[Value.formed,underlying69,O1]
 obtain⟨m,hm⟩:=WD;exact Mz underlying69 Uw hf hm (X9 prog m 69 3 _ _ underlying69 O1 (by decide) (by decide) rfl rfl rfl rfl underlying3 Pu a b (WalkArith.wf_i64 h1) (WalkArith.wf_i64 h2))
theorem Ux:∀x y:Kk,κk x=κk y->x=y:=fun x y h=>by
 have h1:=FW.inj (M7 x) (h▸M7 y);obtain⟨⟨a,b⟩,hx⟩:=x;obtain⟨⟨c,d⟩,hy⟩:=y;simp only[Value.agg.injEq,Array.mk.injEq,List.cons.injEq,Value.int.injEq,true_and,and_true]at h1;obtain⟨rfl,rfl⟩:=h1;rfl
theorem Iv(w:World):(zeroValue 3).run prog w=.ok (.int .i64 0) w:=by kernel_rfl
theorem IW(w:World)(b:Nat)(o1 o2:Obj):setBlock (setBlock w b o1) b o2=setBlock w b o2:=by
 unfold setBlock;simp
theorem MapK.entry{α:Type}[DecidableEq α]{P:Program}{k t e:TypeId}{κ:α->Lit}{w:World}{b c:Nat}{f:α->Option Value}(h:MapK P k κ w b c f)(hκ:∀x y,κ x=κ y->x=y)(Kd:Go.Maps.Keyed P k)(K:WideMaps.KeyLaw P k)(ht:P.underlying t=some (.map k e)){z:Value}(hz:∀u:World,(zeroValue e).run P u=.ok z u)(hn:c<maxLen){key:Value}{x:α}(d:keyOf P k key=some (κ x)):
 ∃ st w1,(Instr.mapEntry t (.map (some b)) key).run P w=.ok (.tuple #[(f x).getD z,goInt st]) w1/\MapK P k κ w1 b (if (f x).isSome then c else c+1) (Iu f x (some ((f x).getD z)))/\w.grownBy w1 (some b) /\
  ∀v,∃w',(Instr.entryStore t (.map (some b)) (goInt st) v).run P w1=.ok () w'/\MapK P k κ w' b (if (f x).isSome then c else c+1) (Iu f x (some v))/\w.grownBy w' (some b):=by
 have aa:=h.look Kd ht (hz w) d;obtain⟨D,af,_,_⟩:=id h;obtain⟨es,clock,hb,F,_,_⟩:=af;obtain⟨v0,st,ae,clock1,hE,_,hS⟩:=WideElems.entry_then_store K ht hz hb F d
 have ah:(setBlock w b (.map ae clock1)).heap[b]? = some (.map ae clock1):=by
  have:=(Array.getElem?_eq_some_iff.1 hb).1;simp[setBlock,this]
 have key:v0=(f x).getD z/\(Instr.mapUpdate t (.map (some b)) key v0).run P w=.ok () (setBlock w b (.map ae clock1)):=by
  rcases K.find w d es.toList F.keys with⟨h1,h2⟩|⟨j,e0,h1,h2,h3⟩
  .simp[Instr.mapEntry,run_underlying ht,MapKept.run_getObj_map hb,K.check w false d,h1,hz,MapKept.run_setObj_map _ hb,Result.andThen,setBlock]at hE;simp[Instr.lookup,run_underlying ht,MapKept.run_getObj_map hb,K.check w _ d,h1,hz,Result.andThen]at aa;obtain⟨⟨rfl,_⟩,hw⟩:=hE;refine⟨aa,?_⟩;simp[Instr.mapUpdate,run_underlying ht,MapKept.run_getObj_map hb,K.check w false d,h1,MapKept.run_setObj_map _ hb,Result.andThen,setBlock];exact hw
  have hj:es[j]? = some e0:=by simpa using h2
  simp[Instr.mapEntry,run_underlying ht,MapKept.run_getObj_map hb,K.check w false d,h1,hj,h3,K.stays w d,MapKept.run_setObj_map _ hb,Result.andThen,setBlock]at hE;simp[Instr.lookup,run_underlying ht,MapKept.run_getObj_map hb,K.check w _ d,h1,Result.andThen]at aa;obtain⟨⟨rfl,_⟩,hw⟩:=hE;refine⟨aa,?_⟩
  have hm:(es.modify j fun e=>{ key:=key,val:=e0.val,born:=e.born })=es.modify j fun e=>{ key:=key,val:=e.val,born:=e.born }:=by
   apply Array.ext';rw[Array.toList_modify,Array.toList_modify,modify_eq_set _ _ _ _ h2,modify_eq_set _ _ _ _ h2]
  simp[Instr.mapUpdate,run_underlying ht,MapKept.run_getObj_map hb,K.check w false d,h1,hj,h3,K.stays w d,MapKept.run_setObj_map _ hb,Result.andThen,setBlock];rw[hm];exact hw
 obtain⟨w1,ad,hM,hg⟩:=h.put hκ Kd ht hn d v0;rw[key.2]at ad;simp only[Result.ok.injEq,true_and]at ad;subst ad;rw[key.1]at hE hM;refine⟨st,_,hE,hM,hg,fun v=>?_⟩;obtain⟨w',ad,ag,ai⟩:=h.put hκ Kd ht hn d v;obtain⟨es',clock',h1,h2⟩:=hS _ v ah;rw[ad]at h2;simp only[Result.ok.injEq,true_and]at h2;refine⟨w',?_,ag,ai⟩;rw[h1,IW,h2]
end Rg
end
section
open Go.RowKit Go.Shelf
namespace Rg
open Nt Ci
structure PlIn(w:World)(ps:List ByteArray)(A:Option Addr)(c sb ob:Nat):Prop where
 r:InStr w A ps
 p:ps.Pairwise ltB
 n:ps.length<=1000000
 b:w.cell? ⟨sb,0,none⟩=some (.slice A ps.length c)
 bl:sb<w.heap.size
 o:w.cell? ⟨ob,0,none⟩=some (.func (.func 26) #[] #[.pointer (some ⟨sb,0,none⟩)])
 ol:ob<w.heap.size
theorem PlIn.below{w w':World}{ps:List ByteArray}{A:Option Addr}{c sb ob:Nat}(h:PlIn w ps A c sb ob)(hb:Below w.heap.size w w'):PlIn w' ps A c sb ob :=
 ⟨h.r.below hb,h.p,h.n,(hb.cell (p:=⟨sb,0,none⟩) h.bl).trans h.b,zJ h.bl hb.size,(hb.cell (p:=⟨ob,0,none⟩) h.ol).trans h.o,zJ h.ol hb.size⟩
theorem PlIn.grown{w w':World}{ps:List ByteArray}{A:Option Addr}{c sb ob:Nat}{row:Option Nat}(h:PlIn w ps A c sb ob)(hg:w.grownBy w' row)(h1:some sb≠row)(h2:some ob≠row)(h3:∀b off,A=some ⟨b,off,none⟩->some b≠row):PlIn w' ps A c sb ob :=
 ⟨InStr.grown h.r hg h3,h.p,h.n,(hg.cell_far ⟨sb,0,none⟩ h.bl h1).trans h.b,zJ h.bl hg.size,(hg.cell_far ⟨ob,0,none⟩ h.ol h2).trans h.o,zJ h.ol hg.size⟩
theorem PlIn.drewN{w:World}{ps:List ByteArray}{A:Option Addr}{c sb ob:Nat}(h:PlIn w ps A c sb ob)(q:Nat):PlIn (w.drewN q) ps A c sb ob:=⟨h.r,h.p,h.n,h.b,h.bl,h.o,h.ol⟩
abbrev Ct:=(ByteArray×ByteArray)×Int
theorem IX(D:List Ct)(x:Ct)(k:ByteArray×ByteArray):tot (D++[x]) k=tot D k+if x.1=k then x.2 else 0:=by
 unfold tot;rw[yQ,yD,List.sum_append]
 congr 1
 by_cases e:x.1=k
 .rw[zF e,zk,zF (zG e)];simp
 rw[zE e,zk,zE (by rw[zH e];decide)];simp
theorem Uy{D:List Ct}{k:ByteArray×ByteArray}(h:¬∃v,(k,v)∈D):tot D k=0:=by
 unfold tot;have:D.filter (fun x=>decide (x.1=k))=[]:=List.filter_eq_nil_iff.2 fun x hx hq=>h ⟨x.2,by rw[<-zL hq];exact hx⟩;rw[this];rfl
def Mod(D:List Ct):Prop:=∀x∈D,0<=x.2/\x.2<=6000
theorem O2{D:List Ct}(h:Mod D)(k:ByteArray×ByteArray):0<=tot D k/\tot D k<=6000*D.length:=by
 unfold tot
 induction D with
 |nil=>exact⟨Int.le_refl _,Int.le_refl _⟩
 |cons x D ih=>
  have h1:=h x zf;have h2:=ih fun y hy=>h y (zY _ hy);rw[zk,zZ]
  split
  .rw[xS,List.sum_cons];omega
  omega
def nm(ps:List ByteArray)(i:Int):ByteArray:=ps.getD i.toNat ⟨#[]⟩
theorem Fc{ps:List ByteArray}{i:Nat}(h:i<ps.length):nm ps (i:Int)=ps[i]:=by
 unfold nm;rw[wZ,yH,ze h];rfl
def Lf(ps:List ByteArray)(D:List Ct)(x:Int×Int):Prop:=0<=x.1/\0<=x.2/\x.1.toNat<ps.length/\x.2.toNat<ps.length/\∃v,((nm ps x.1,nm ps x.2),v)∈D
open Classical in
noncomputable def EE(ps:List ByteArray)(D:List Ct):Kk->Option Value:=fun x=>if Lf ps D x.1 then some (.int .i64 (tot D (nm ps x.1.1,nm ps x.1.2))) else none
theorem Ko{ps:List ByteArray}(D:List Ct)(x:Kk)(h:0<=x.1.1/\0<=x.1.2/\x.1.1.toNat<ps.length/\x.1.2.toNat<ps.length):(EE ps D x).getD (.int .i64 0)=.int .i64 (tot D (nm ps x.1.1,nm ps x.1.2)):=by
 unfold EE
 by_cases e:Lf ps D x.1
 .rw[zF e];rfl
 rw[zE e,Uy fun q=>e ⟨h.1,h.2.1,h.2.2.1,h.2.2.2,q⟩];rfl
theorem Lg{ps:List ByteArray}(hp:ps.Pairwise ltB){i j:Int}(hi:0<=i/\i.toNat<ps.length)(hj:0<=j/\j.toNat<ps.length)(e:nm ps i=nm ps j):i=j:=by
 obtain⟨a,rfl⟩:∃a:Nat,i=a:=⟨i.toNat,by omega⟩;obtain⟨b,rfl⟩:∃b:Nat,j=b:=⟨j.toNat,by omega⟩;rw[wZ]at hi hj;rw[Fc hi.2,Fc hj.2]at e
 rcases Nat.lt_trichotomy a b with h|h|h
 .have:=List.pairwise_iff_getElem.1 hp a b hi.2 hj.2 h;rw[e]at this;exact absurd this (EZ _ _ this)
 .rw[h]
 have:=List.pairwise_iff_getElem.1 hp b a hj.2 hi.2 h;rw[e]at this;exact absurd this (EZ _ _ this)
theorem Rh{ps:List ByteArray}(hp:ps.Pairwise ltB)(D:List Ct)(x:Kk)(h:0<=x.1.1/\0<=x.1.2/\x.1.1.toNat<ps.length/\x.1.2.toNat<ps.length)(v:Int):
 ∀y,Iu (EE ps D) x (some (.int .i64 (tot D (nm ps x.1.1,nm ps x.1.2)+v))) y=EE ps (D++[((nm ps x.1.1,nm ps x.1.2),v)]) y:=fun y=>by
 by_cases e:y=x
 .subst e;rw[Be];unfold EE;rw[zF (show Lf _ _ _ from⟨h.1,h.2.1,h.2.2.1,h.2.2.2,v,yz _ (List.mem_singleton.2 rfl)⟩),IX,zF rfl]
 rw[Bh e];unfold EE
 by_cases q:Lf ps D y.1
 .have ne:(nm ps x.1.1,nm ps x.1.2)≠(nm ps y.1.1,nm ps y.1.2):=fun c=>by
   rw[Prod.mk.injEq]at c;refine e (Subtype.ext (Prod.ext ?_ ?_))
   .exact(Lg hp ⟨h.1,h.2.2.1⟩ ⟨q.1,q.2.2.1⟩ c.1).symm
   exact(Lg hp ⟨h.2.1,h.2.2.2⟩ ⟨q.2.1,q.2.2.2.1⟩ c.2).symm
  rw[zF q,zF (show Lf _ _ _ from⟨q.1,q.2.1,q.2.2.1,q.2.2.2.1,q.2.2.2.2.imp fun v hv=>yV _ hv⟩),IX,zE ne,Int.add_zero]
 rw[zE q,zE];rintro⟨a,b,c,d,u,hu⟩
 rcases List.mem_append.1 hu with hu|hu
 .exact q ⟨a,b,c,d,u,hu⟩
 have c1:=congrArg Prod.fst (List.mem_singleton.1 hu);rw[Prod.mk.injEq]at c1;refine e (Subtype.ext (Prod.ext ?_ ?_))
 .exact Lg hp ⟨a,c⟩ ⟨h.1,h.2.2.1⟩ c1.1
 exact Lg hp ⟨b,d⟩ ⟨h.2.1,h.2.2.2⟩ c1.2
def BW(who:List ByteArray)(co:ByteArray)(p:Int)(n:Nat):List Ct:=(who.filter fun x=>decide (0<p)&&decide (x≠co)).map fun x=>((co,x),p*60/n)
def LkM(W:World)(b:Nat)(ps:List ByteArray)(D:List Ct):Prop:=∃c,MapK prog 69 κk W b c (EE ps D)/\c<=D.length
end Rg
end
section
open Go.RowKit Go.Shelf
namespace Rg
open Nt Ci
def XA(k:Nat):Code->Bool
 |.region j _ _=>j==k
 |_=>false
theorem PlIn.drew{w:World}{ps:List ByteArray}{A:Option Addr}{c sb ob:Nat}(h:PlIn w ps A c sb ob):PlIn w.drew ps A c sb ob:=⟨h.r,h.p,h.n,h.b,h.bl,h.o,h.ol⟩
theorem Hy(w:World)(q:Nat)(row:Option Nat):w.grownBy (w.drewN q) row:=⟨rfl,rfl,rfl,zB _,fun _ _ _=>rfl⟩
theorem LkM.drewN{W:World}{b:Nat}{ps:List ByteArray}{D:List Ct}(h:LkM W b ps D)(q:Nat):LkM (W.drewN q) b ps D:=h
noncomputable def atR(j:Nat):Code:=((Tryz.f28.body.map Ci.Bl).bind fun l=>l.find? (XA j)).getD .skip
theorem sh4{c5 c6 c7 c8 c9 aA aB aC aD aE aF aG aH aI aJ aK aL aM aN aY aZ a0 a1 a2 a3 a4 a5 a6 a7 a8 a9 ba bb bc bd be:Value}{Q:Exit->Act->World->Prop}(ps:List ByteArray)(A Aw:Option Addr)(c cw sb ob mb ci si n:Nat)(tc ts:ByteArray)(P:Int)(D:List Ct)(w:World)(hI:PlIn w ps A c sb ob)(hM:LkM w mb ps D)(hD:Mod D)(bj:D.length<=2000000)(au:ci<ps.length)(az:si<ps.length)(ao:ps[ci]=tc)(ap:ps[si]=ts)(hP:0<=P/\P<=100)(hn:0<n/\n<=1000)(h1:sb≠mb)(h2:ob≠mb)(h3:∀b off,A=some ⟨b,off,none⟩->b≠mb)
 (h:∀(u24 u25 u26 u27 u28 u29 u30 u31 u32 u33 u34 u35 u36 u37 u38 u39 u40:Value)(W:World)(_:Hid (LkM W mb ps (D++[((tc,ts),P*60/n)])))(_:Hid (w.grownBy W (some mb))),Q .normal ⟨#[.map (some mb),.string tc,.int .i64 P,.slice Aw n cw,.pointer (some ⟨ob,0,none⟩),c5,c6,c7,c8,c9,.string ts,aA,aB,aC,aD,aE,aF,aG,aH,aI,aJ,aK,aL,aM,u24,u25,u26,u27,u28,u29,u30,u31,u32,u33,u34,u35,u36,u37,u38,u39,u40,aN],[]⟩ W):
 Code.wp prog (atR 4) Q ⟨#[.map (some mb),.string tc,.int .i64 P,.slice Aw n cw,.pointer (some ⟨ob,0,none⟩),c5,c6,c7,c8,c9,.string ts,aA,aB,aC,aD,aE,aF,aG,aH,aI,aJ,aK,aL,aM,aY,aZ,a0,a1,a2,a3,a4,a5,a6,a7,a8,a9,ba,bb,bc,bd,be,aN],[]⟩ w:=by
 conv=>arg 2;whnf
 conv=>arg 4;zeta
 replace h:=zh h;have kp:Hid (∀W,PlIn W ps A c sb ob->∀i (hi:i<ps.length),Calls prog 26 #[.string ps[i],.pointer (some ⟨sb,0,none⟩)] W fun e w'=>e=.returned (.int .i64 (i:Int))/\∃q,w'=W.drewN q):=fun W h i hi=>Rf ps A c sb i hi W h.r h.p h.n h.b;have kc:Hid (∀W,PlIn W ps A c sb ob->Calls prog 26 #[.string tc,.pointer (some ⟨sb,0,none⟩)] W fun e w'=>e=.returned (.int .i64 (ci:Int))/\∃q,w'=W.drewN q):=fun W h=>by rw[<-ao];exact kp.o W h ci au
 have ks:Hid (∀W,PlIn W ps A c sb ob->Calls prog 26 #[.string ts,.pointer (some ⟨sb,0,none⟩)] W fun e w'=>e=.returned (.int .i64 (si:Int))/\∃q,w'=W.drewN q):=fun W h=>by rw[<-ap];exact kp.o W h si az
 have bp:=hI.n;have ay:=hI.p;obtain⟨kx,aj⟩:∃x:Kk,x.1=((ci:Int),(si:Int)):=⟨⟨((ci:Int),(si:Int)),⟨by omega,by omega⟩,⟨by show (-9223372036854775808:Int)<=(si:Int);omega,by show (si:Int)<=9223372036854775807;omega⟩⟩,rfl⟩;have ae:=M7 kx;rw[aj]at ae;have an:0<=kx.1.1/\0<=kx.1.2/\kx.1.1.toNat<ps.length/\kx.1.2.toNat<ps.length:=by rw[aj];exact⟨by omega,by omega,by simpa using au,by simpa using az⟩
 have ax:(nm ps kx.1.1,nm ps kx.1.2)=(tc,ts):=by rw[aj];show (nm ps (ci:Int),nm ps (si:Int))=_;rw[Fc au,Fc az,ao,ap]
 have af:=Rh ay D kx an (P*60/n);have ad:=Ko D kx an;rw[ax]at af ad;obtain⟨T,hT⟩:∃x,x=tot D (tc,ts):=⟨_,rfl⟩;have al:=O2 hD (tc,ts);rw[<-hT]at af ad al;have bi:0<=T/\T<=12000000000:=⟨al.1,by have:=al.2;omega⟩;obtain⟨V,hV⟩:∃x,x=P*60/(n:Int):=⟨_,rfl⟩;have bk:0<=V:=by rw[hV];exact Int.ediv_nonneg (by omega) (by omega)
 have bm:V<=6000:=by rw[hV];exact Int.le_trans (Int.ediv_le_self _ (by omega)) (by omega)
 have bn:Int.tdiv (P*60) (n:Int)=V:=by rw[hV];exact Int.tdiv_eq_ediv_of_nonneg (by omega)
 have m1:IntKind.i64.wrap (P*60)=P*60:=wN _ (by omega);have m2:IntKind.i64.wrap V=V:=wN _ (by omega);have m3:IntKind.i64.wrap (T+V)=T+V:=wN _ (by omega);rw[<-hV]at af h;have n0:((n:Int)==0)=false:=beq_eq_false_iff_ne.2 (by omega);have n1:¬n=0:=by omega
 have aq:Hid (PlIn w.drew ps A c sb ob):=hI.drew;have bf:Hid (LkM w.drew mb ps D):=hM;have bh:Hid (w.grownBy w.drew (some mb)):=⟨rfl,rfl,rfl,zB _,fun _ _ _=>rfl⟩;replace hI:=zh hI;replace hM:=zh hM;replace af:=zh af;replace ad:=zh ad;replace ae:=zh ae;replace hT:=zh hT;replace hV:=zh hV;replace ay:=zh ay;replace hD:=zh hD;replace ax:=zh ax;replace an:=zh an;replace aj:=zh aj;replace ao:=zh ao;replace ap:=zh ap;clear al;refine xR ?_;refine xG (S:=fun W=>W.cell? ⟨ob,0,none⟩=some (.func (.func 26) #[] #[.pointer (some ⟨sb,0,none⟩)])) (by kernel_rfl) (aq.o.o) (fun aa=>?_);replace aa:=zh aa;refine tkhH (v:=?_) 0 rfl (aa.o) (Or.inl ⟨by rfl,?_⟩) ?_;rotate_left
 . (intro w d;obtain q1:=d;go_simp<;>with_reducible rfl)
 try simp only[Act.put,zA]
 refine tkhH (v:=?_) 1 rfl (aa.o) (Or.inl ⟨by rfl,?_⟩) ?_;rotate_left
 . (intro w d;obtain q1:=d;go_simp<;>with_reducible rfl)
 try simp only[Act.put]
 refine tkhH (v:=?_) 2 rfl (aa.o) (Or.inl ⟨by rfl,?_⟩) ?_;rotate_left
 . (intro w d;obtain q1:=d;go_simp<;>with_reducible rfl)
 try simp only[Act.put]
 refine tkhH (v:=?_) 4 rfl (aa.o) (Or.inl ⟨by rfl,?_⟩) ?_;rotate_left
 . (intro w d;obtain q1:=d;go_simp<;>with_reducible rfl)
 try simp only[Act.put]
 refine tkhH (v:=?_) 5 rfl (aa.o) (Or.inl ⟨by rfl,?_⟩) ?_;rotate_left
 . (intro w d;obtain q1:=d;go_simp<;>with_reducible rfl)
 try simp only[Act.put]
 refine tkhH (v:=?_) 9 rfl (aa.o) (Or.inl ⟨by rfl,?_⟩) ?_;rotate_left
 . (intro w d;obtain q1:=d;go_simp<;>with_reducible rfl)
 try simp only[Act.put]
 refine tkhH (v:=?_) 10 rfl (aa.o) (Or.inl ⟨by rfl,?_⟩) ?_;rotate_left
 . (intro w d;obtain q1:=d;go_simp<;>with_reducible rfl)
 try simp only[Act.put]
 refine tkhH (v:=?_) 11 rfl (aa.o) (Or.inl ⟨by rfl,?_⟩) ?_;rotate_left
 . (intro w d;obtain q1:=d;go_simp<;>with_reducible rfl)
 try simp only[Act.put]
 refine tkhH (v:=?_) 12 rfl (aa.o) (Or.inl ⟨by rfl,?_⟩) ?_;rotate_left
 . (intro w d;obtain q1:=d;go_simp<;>with_reducible rfl)
 try simp only[Act.put]
 refine tkhH (v:=?_) 13 rfl (aa.o) (Or.inl ⟨by rfl,?_⟩) ?_;rotate_left
 . (intro w d;obtain q1:=d;go_simp<;>with_reducible rfl)
 try simp only[Act.put]
 refine zT (rs:=[3]) (by kernel_rfl) (by simp) ?_;refine zK (o:=_) rfl (fun K hK=>?_) ?_
 .go_simp;refine(kc.o _ aq.o).mono ?_;rintro e W2 ⟨rfl,q,rfl⟩;have ak:Hid (PlIn (w.drew.drewN q) ps A c sb ob):=aq.o.drewN q;have aP:Hid (LkM (w.drew.drewN q) mb ps D):=bf;have aU:Hid (w.grownBy (w.drew.drewN q) (some mb)):=bh.o.trans (Hy _ _ _);generalize w.drew.drewN q=w2 at ak aP aU ⊢;refine hK.o _ _ (ak.o.o) (fun _=>?_);clear hK K
  try simp only[Act.put,zA,zD,zC]
  refine zT (rs:=[6]) (by kernel_rfl) (by simp) ?_;refine zK (o:=_) rfl (fun K hK=>?_) ?_
  .go_simp;refine(ks.o _ ak.o).mono ?_;rintro e W3 ⟨rfl,q2,rfl⟩;have ag:Hid (PlIn (w2.drewN q2) ps A c sb ob):=ak.o.drewN q2;have aQ:Hid (LkM (w2.drewN q2) mb ps D):=aP;have aV:Hid (w.grownBy (w2.drewN q2) (some mb)):=aU.o.trans (Hy _ _ _);generalize w2.drewN q2=w3 at ag aQ aV ⊢;refine hK.o _ _ (ag.o.o) (fun _=>?_);clear hK K
   try simp only[Act.put,zA,zD,zC]
   refine tkhH (v:=?_) 7 rfl (ag.o.o) (Or.inl ⟨by rfl,?_⟩) ?_;rotate_left
   . (intro w d;obtain q1:=d;go_simp<;>with_reducible rfl)
   try simp only[Act.put,zA]
   obtain⟨mc,ar,bo⟩:=aQ.o;have aw:=ar.look FW underlying64 (Iv _) ae.o;rw[ad.o]at aw;obtain⟨st,w4,hE,ai,aW,aT⟩:=MapK.entry ar Ux FW Y3 underlying64 Iv (by unfold maxLen;omega) ae.o;obtain⟨w5,bg,aR,av⟩:=aT (.int .i64 (T+V));simp only[goInt]at bg;rw[ad.o]at hE ai;have am:=ai.look FW underlying64 (Iv _) ae.o;rw[Be]at am;have ah:Hid (PlIn w4 ps A c sb ob):=ag.o.grown aW (fun e=>h1 (Option.some.inj e)) (fun e=>h2 (Option.some.inj e)) (fun b off e f=>h3 b off e (Option.some.inj f));have aO:Hid (PlIn w5 ps A c sb ob):=ag.o.grown av (fun e=>h1 (Option.some.inj e)) (fun e=>h2 (Option.some.inj e)) (fun b off e f=>h3 b off e (Option.some.inj f));have aS:Hid (LkM w5 mb ps (D++[((tc,ts),V)])):=⟨_,aR.congr af.o,by rw[zX];split<;>simp<;>omega⟩;have aX:Hid (w.grownBy w5 (some mb)):=aV.o.trans av;clear ar ai aT aR aW av;refine zT (rs:=[8,15]) (by kernel_rfl) (by simp) ?_;refine zK (o:=_) rfl (fun K hK=>?_) ?_
   .go_simp;refine hK.o _ _ (ag.o.o) (fun _=>?_);clear hK K
    try simp only[Act.put,zA,zD,zC]
    refine tkhH (v:=?_) 14 rfl (ag.o.o) (Or.inl ⟨by rfl,?_⟩) ?_;rotate_left
    . (intro w d;obtain q1:=d;go_simp<;>with_reducible rfl)
    try simp only[Act.put,zA]
    refine zT (rs:=[15]) (by kernel_rfl) (by simp) ?_;refine zK (o:=_) rfl (fun K hK=>?_) ?_
    .go_simp;refine hK.o _ _ (ah.o.o) (fun _=>?_);clear hK K
     try simp only[Act.put,zA,zD,zC]
     refine tkhH (v:=?_) 16 rfl (ah.o.o) (Or.inl ⟨by rfl,?_⟩) ?_;rotate_left
     . (intro w d;obtain q1:=d;go_simp<;>with_reducible rfl)
     try simp only[Act.put,zA]
     refine zT (rs:=[17]) (by kernel_rfl) (by simp) ?_;refine zK (o:=_) rfl (fun K hK=>?_) ?_
     .go_simp;refine hK.o _ _ (aO.o.o) (fun _=>?_);clear hK K
      try simp only[Act.put,zA,zD,zC]
      refine xJ (by kernel_rfl) ?_ _;refine yx ?_;exact h.o _ _ _ _ _ _ _ _ _ _ _ _ _ _ _ _ _ _ aS aX
     exact zR
    exact zR
   refine zK (o:=_) rfl (fun K hK=>?_) ?_
   .go_simp;refine hK.o _ _ (ah.o.o) (fun _=>?_);clear hK K
    try simp only[Act.put,zA,zD,zC]
    refine tkhH (v:=?_) 16 rfl (ah.o.o) (Or.inl ⟨by rfl,?_⟩) ?_;rotate_left
    . (intro w d;obtain q1:=d;go_simp<;>with_reducible rfl)
    try simp only[Act.put,zA]
    refine zT (rs:=[8]) (by kernel_rfl) (by simp) ?_;refine zK (o:=_) rfl (fun K hK=>?_) ?_
    .go_simp;refine hK.o _ _ (ah.o.o) (fun _=>?_);clear hK K
     try simp only[Act.put,zA,zD,zC]
     refine tkhH (v:=?_) 14 rfl (ah.o.o) (Or.inl ⟨by rfl,?_⟩) ?_;rotate_left
     . (intro w d;obtain q1:=d;go_simp<;>with_reducible rfl)
     try simp only[Act.put,zA]
     refine zT (rs:=[17]) (by kernel_rfl) (by simp) ?_;refine zK (o:=_) rfl (fun K hK=>?_) ?_
     .go_simp;refine hK.o _ _ (aO.o.o) (fun _=>?_);clear hK K
      try simp only[Act.put,zA,zD,zC]
      refine xJ (by kernel_rfl) ?_ _;refine yx ?_;exact h.o _ _ _ _ _ _ _ _ _ _ _ _ _ _ _ _ _ _ aS aX
     exact zR
    exact zR
   exact zR
  exact zR
 exact zR
theorem Kr(ps:List ByteArray)(A:Option Addr)(c sb ob mb:Nat)(D:List Ct)(who:List ByteArray)(Aw:Option Addr)(cw:Nat)(co:ByteArray)(P:Int)(w:World)(hI:PlIn w ps A c sb ob)(hw:InStr w Aw who)(hM:LkM w mb ps D)(hD:Mod D)(ar:D.length<=1000000)(av:who.length<=1000)(hP:0<=P/\P<=100)(an:co∈ps)(ag:∀x∈who,x∈ps)(h1:sb≠mb)(h2:ob≠mb)(h3:∀b off,A=some ⟨b,off,none⟩->b≠mb)(h4:∀b off,Aw=some ⟨b,off,none⟩->b≠mb):
 Calls prog 28 #[.map (some mb),.string co,.int .i64 P,.slice Aw who.length cw,.pointer (some ⟨ob,0,none⟩)] w fun e w'=>e=.returned (.tuple #[])/\LkM w' mb ps (D++BW who co P who.length)/\w.grownBy w' (some mb):=by
 replace hI:=zh hI;replace hw:=zh hw;replace hM:=zh hM;replace hD:=zh hD;replace ag:=zh ag;go_enter func28,ntmps28;go_wp2
 go_loopw [13] (fun i wr=>∃k:Nat,k<=who.length/\i=.int .i64 (k:Int)/\Hid (w.grownBy wr (some mb))/\Hid (LkM wr mb ps (D++BW (who.take k) co P who.length))) (fun i _=>who.length-(intOf i).toNat)
 case atStart=>exact⟨0,zS _,rfl,World.grownBy.refl _ _,by simpa [BW] using hM⟩
 case round=>
  obtain⟨k,hk,rfl,hg,aa⟩:=hrel;obtain⟨wz,rfl⟩:∃z,z=wr:=⟨_,rfl⟩
  by_cases hlt:k<who.length
  .have ak:Hid (PlIn wz ps A c sb ob):=hI.o.grown hg.o (fun e=>h1 (Option.some.inj e)) (fun e=>h2 (Option.some.inj e)) (fun b off e f=>h3 b off e (Option.some.inj f));obtain⟨b,off,rfl,au,ai⟩:=(InStr.grown hw.o hg.o (fun b off e f=>h4 b off e (Option.some.inj f))) (by omega);have e0:=ai k hlt;have aj:=ag.o who[k] (zO hlt);have d:who.take (k+1)=who.take k++[who[k]]:=zP hlt;have k0:(0:Int)<=(k:Int):=by omega
   have k1:(k:Int)<(who.length:Int):=by omega
   generalize who[k]=s at e0 aj d;clear ai h4
   by_cases c1:0<P
   .by_cases c2:s=co
    .have m2:s.toList=co.toList:=by rw[c2]
     have hN:Hid (LkM wz mb ps (D++BW (who.take (k+1)) co P who.length)):=by
      have:BW (who.take (k+1)) co P who.length=BW (who.take k) co P who.length:=by
       unfold BW;rw[d,yQ,zk,zE (by rw[c2];simp)];simp
      rw[this];exact aa
     subst c2;replace d:=zh d;clear m2;go_wp2;exact⟨⟨k+1,by omega,by go_num,hg,hN⟩,by simp only[intOf];omega⟩
    have m2:¬s.toList=co.toList:=fun h=>c2 (zL ((@BB s co).symm.trans (beq_iff_eq.2 h)));have m3:(s.toList==co.toList)=false:=(@BB s co).trans (zH c2)
    have hA:BW (who.take (k+1)) co P who.length=BW (who.take k) co P who.length++[((co,s),P*60/who.length)]:=by
     unfold BW;rw[d,yQ,zk,zF (by rw[zG c1,zG c2];rfl),yD];simp
    obtain⟨ci,am,ae⟩:=zi an;obtain⟨si,aq,af⟩:=zi aj
    have ad:Mod (D++BW (who.take k) co P who.length):=fun x hx=>by
     rcases List.mem_append.1 hx with hx|hx
     .exact hD.o x hx
     unfold BW at hx;obtain⟨y,_,rfl⟩:=List.mem_map.1 hx
     show 0<=P*60/(who.length:Int)/\_
     exact⟨Int.ediv_nonneg (by omega) (by omega),Int.le_trans (Int.ediv_le_self _ (by omega)) (by omega)⟩
    have ah:(D++BW (who.take k) co P who.length).length<=2000000:=by
     rw[zX]
     have:(BW (who.take k) co P who.length).length<=who.length:=by
      unfold BW;rw[zW];exact zQ (zy _ _) (by rw[xI];omega)
     omega
    obtain⟨n,hn⟩:∃n,n=who.length:=⟨_,rfl⟩;replace d:=zh d;replace hA:=zh hA;replace ae:=zh ae;replace af:=zh af;replace c2:=zh c2;replace ad:=zh ad;replace hn:=zh hn;go_wp2;refine sh4 ps A (some ⟨b,off,none⟩) c cw sb ob mb ci si who.length co s P _ wz ak.o aa.o ad.o ah am aq ae.o af.o hP ⟨by omega,by omega⟩ h1 h2 h3 ?_;intro u24 u25 u26 u27 u28 u29 u30 u31 u32 u33 u34 u35 u36 u37 u38 u39 u40 W al ao;have hN:Hid (LkM W mb ps (D++BW (who.take (k+1)) co P who.length)):=by rw[hA.o,<-xr];exact al
    have ap:Hid (w.grownBy W (some mb)):=hg.o.trans ao.o;go_wp2;exact⟨⟨k+1,by omega,by go_num,ap,hN⟩,by simp only[intOf];omega⟩
   have hN:Hid (LkM wz mb ps (D++BW (who.take (k+1)) co P who.length)):=by
    have:∀l,BW l co P who.length=[]:=fun l=>by unfold BW;rw[List.filter_eq_nil_iff.2 (fun x _=>by rw[zH c1];simp)];rfl
    rw[this]at aa ⊢;exact aa
   have m1:decide (0<P)=false:=zH c1;have m1':P<=0:=by omega
   replace d:=zh d;go_wp2;exact⟨⟨k+1,by omega,by go_num,hg,hN⟩,by simp only[intOf];omega⟩
  obtain rfl:k=who.length:=by omega
  rw[zu]at aa;go_wp2;go_end0;exact⟨rfl,aa,hg⟩
end Rg
end
section
open Go.RowKit Go.Shelf Go.Sort
namespace Rg
open Nt Ci
theorem XB(b:Nat)(x y:Int)(w:World)(h0:w.cell? ⟨b,0,none⟩=some (.int .i64 x))(h1:w.cell? ⟨b,1,none⟩=some (.int .i64 y))(_hb:b<w.heap.size):
 Calls prog 69 #[.slice (some ⟨b,0,none⟩) 2 2] w fun e w'=>e=.returned (.int .i64 (if x=0 then y else x))/\w'=w:=by
 obtain⟨R,hR⟩:∃R,R=(if x=0 then y else x):=⟨_,rfl⟩;rw[<-hR];replace hR:=zh hR;go_enter func69,ntmps69;go_wp2
 go_loop [8] (fun i=>∃k:Nat,k<=2/\i=.int .i64 k/\Hid (0<k->x=0)/\Hid (1<k->y=0)) (fun i=>2-(intOf i).toNat)
 case atStart=>exact⟨0,zS _,rfl,fun h=>absurd h (wB _),fun h=>absurd h (by omega)⟩
 case round=>
  obtain⟨k,hk,rfl,h2,h3⟩:=hrel
  match k,hk with
  |0,_=>
   by_cases c:x=0
   .have hx:Hid (0<1->x=0):=fun _=>c;have hy:Hid (1<1->y=0):=fun h=>absurd h (wB _);have m1:(x != 0)=false:=bne_eq_false_iff_eq.2 c;replace c:=zh c;go_wp2;exact⟨⟨1,by omega,rfl,hx,hy⟩,by simp[intOf]⟩
   have hQ:Hid (R=x):=hR.o.trans (zE c);have m1:(x != 0)=true:=bne_iff_ne.2 c;replace c:=zh c;go_wp2;go_ret;exact⟨by rw[hQ.o];rfl,rfl⟩
  |1,_=>
   have d:=h2.o (by omega)
   by_cases c:y=0
   .have hx:Hid (0<2->x=0):=fun _=>d;have hy:Hid (1<2->y=0):=fun _=>c;have m1:(y != 0)=false:=bne_eq_false_iff_eq.2 c;replace c:=zh c;replace d:=zh d;go_wp2;exact⟨⟨2,by omega,rfl,hx,hy⟩,by simp[intOf]⟩
   have hQ:Hid (R=y):=hR.o.trans (zF d);have m1:(y != 0)=true:=bne_iff_ne.2 c;replace c:=zh c;replace d:=zh d;go_wp2;go_ret;exact⟨by rw[hQ.o];rfl,rfl⟩
  |2,_=>
   have hQ:Hid (R=0):=by rw[hR.o,zF (h2.o (by omega))];exact h3.o (by omega)
   go_wp2;go_ret;exact⟨by rw[hQ.o];rfl,rfl⟩
def Lh(x y:Int×Int):Int:=if Lib.compareInt x.1 y.1=0 then Lib.compareInt x.2 y.2 else Lib.compareInt x.1 y.1
theorem Ri{w W:World}(h:∃q os,W=grow (w.drewN q) os):∃q os,W.drew=grow (w.drewN q) os:=by
 obtain⟨q,os,rfl⟩:=h;exact⟨q+1,os,rfl⟩
theorem Li{w W:World}(h:∃q os,W=grow (w.drewN q) os)(o:Obj):∃q os,W.alloc o=grow (w.drewN q) os:=by
 obtain⟨q,os,rfl⟩:=h;exact⟨q,os++#[o],by rw[alloc_eq_grow,grow_grow]⟩
def XC(k:Nat):Code->Bool
 |.region j _ _=>j==k
 |_=>false
noncomputable def cmR(j:Nat):Code:=((Tryz.f68.body.map Ci.Bl).bind fun l=>l.find? (XC j)).getD .skip
theorem cm1{c0 c1 a4 a5 a6 a7 a8 a9 am an ao ap aq ar au:Value}{Q:Exit->Act->World->Prop}(xb yb:Nat)(a0 a1 b0 b1:Int)(w w0:World)(hx:Bk w xb 69 [.int .i64 a0,.int .i64 a1])(hy:Bk w yb 69 [.int .i64 b0,.int .i64 b1])(hg:∃q os,w=grow (w0.drewN q) os)
 (h:∀(u5 u6 u7 u8 u9 u10 u11 u12 u13 u14 u15 u16:Value)(W:World)(_:∃q os,W=grow (w0.drewN q) os),Q .normal ⟨#[c0,c1,.pointer (some ⟨xb,0,none⟩),.pointer (some ⟨yb,0,none⟩),.int .i64 (Lh (a0,a1) (b0,b1)),u5,u6,u7,u8,u9,u10,u11,u12,u13,u14,u15,u16],[]⟩ W):
 Code.wp prog (cmR 1) Q ⟨#[c0,c1,.pointer (some ⟨xb,0,none⟩),.pointer (some ⟨yb,0,none⟩),a4,a5,a6,a7,a8,a9,am,an,ao,ap,aq,ar,au],[]⟩ w:=by
 conv=>arg 2;whnf
 conv=>arg 4;zeta
 replace h:=zh h;have kc:Hid (∀x y W,Calls prog 70 #[.int .i64 x,.int .i64 y] W fun e w'=>e=.returned (.int .i64 (Lib.compareInt x y))/\w'=W):=fun x y W=>Tryz.cmp_Compare_int x y W;have ae:Hid (Bk w.drew xb 69 [.int .i64 a0,.int .i64 a1]):=hx;have af:Hid (Bk w.drew yb 69 [.int .i64 b0,.int .i64 b1]):=hy;have al:Hid (∃q os,w.drew=grow (w0.drewN q) os):=Ri hg;have ad:Hid (∀W,Bk W xb 69 [.int .i64 a0,.int .i64 a1]->Bk W yb 69 [.int .i64 b0,.int .i64 b1]->W.cell? ⟨xb,0,none⟩=some (.int .i64 a0)/\W.cell? ⟨xb,1,none⟩=some (.int .i64 a1)/\W.cell? ⟨yb,0,none⟩=some (.int .i64 b0)/\W.cell? ⟨yb,1,none⟩=some (.int .i64 b1)):=fun W h k=>⟨h.c0,h.c1,k.c0,k.c1⟩;obtain⟨R,hR⟩:∃R,R=Lh (a0,a1) (b0,b1):=⟨_,rfl⟩;rw[<-hR]at h;replace hR:=zh hR;replace hx:=zh hx;replace hy:=zh hy;replace hg:=zh hg;refine xR ?_;refine xG (S:=fun W=>W.cell? ⟨xb,0,none⟩=some (.int .i64 a0)/\W.cell? ⟨xb,1,none⟩=some (.int .i64 a1)/\W.cell? ⟨yb,0,none⟩=some (.int .i64 b0)/\W.cell? ⟨yb,1,none⟩=some (.int .i64 b1)) (by kernel_rfl) (ad.o _ ae.o af.o) (fun aa=>?_);replace aa:=zh aa;refine tkhH (v:=?_) 0 rfl (aa.o) (Or.inl ⟨by rfl,?_⟩) ?_;rotate_left
 . (intro w d;obtain⟨q1,q2,q3,q4⟩:=d;go_simp<;>with_reducible rfl)
 try simp only[Act.put,zA]
 refine tkhH (v:=?_) 1 rfl (aa.o) (Or.inl ⟨by rfl,?_⟩) ?_;rotate_left
 . (intro w d;obtain⟨q1,q2,q3,q4⟩:=d;go_simp<;>with_reducible rfl)
 try simp only[Act.put]
 refine tkhH (v:=?_) 2 rfl (aa.o) (Or.inl ⟨by rfl,?_⟩) ?_;rotate_left
 . (intro w d;obtain⟨q1,q2,q3,q4⟩:=d;go_simp<;>with_reducible rfl)
 try simp only[Act.put]
 refine tkhH (v:=?_) 3 rfl (aa.o) (Or.inl ⟨by rfl,?_⟩) ?_;rotate_left
 . (intro w d;obtain⟨q1,q2,q3,q4⟩:=d;go_simp<;>with_reducible rfl)
 try simp only[Act.put]
 refine tkhH (v:=?_) 5 rfl (aa.o) (Or.inl ⟨by rfl,?_⟩) ?_;rotate_left
 . (intro w d;obtain⟨q1,q2,q3,q4⟩:=d;go_simp<;>with_reducible rfl)
 try simp only[Act.put]
 refine tkhH (v:=?_) 6 rfl (aa.o) (Or.inl ⟨by rfl,?_⟩) ?_;rotate_left
 . (intro w d;obtain⟨q1,q2,q3,q4⟩:=d;go_simp<;>with_reducible rfl)
 try simp only[Act.put]
 refine tkhH (v:=?_) 7 rfl (aa.o) (Or.inl ⟨by rfl,?_⟩) ?_;rotate_left
 . (intro w d;obtain⟨q1,q2,q3,q4⟩:=d;go_simp<;>with_reducible rfl)
 try simp only[Act.put]
 refine tkhH (v:=?_) 8 rfl (aa.o) (Or.inl ⟨by rfl,?_⟩) ?_;rotate_left
 . (intro w d;obtain⟨q1,q2,q3,q4⟩:=d;go_simp<;>with_reducible rfl)
 try simp only[Act.put]
 generalize w.drew=wd at ae af al ⊢;obtain⟨d0,ah⟩:∃x,x=Lib.compareInt a0 b0:=⟨_,rfl⟩;obtain⟨d1,ai⟩:∃x,x=Lib.compareInt a1 b1:=⟨_,rfl⟩;replace ah:=zh ah;replace ai:=zh ai;refine zT (rs:=[4]) (by kernel_rfl) (by simp) ?_;refine zK (o:=_) rfl (fun K hK=>?_) ?_
 .go_simp;refine(kc.o _ _ _).q fun W2 hW=>?_;obtain rfl:=hW.symm;rw[<-ah.o];refine hK.o _ _ (ad.o _ ae.o af.o) (fun _=>?_);clear hK K
  try simp only[Act.put,zA,zD,zC]
  refine zT (rs:=[9]) (by kernel_rfl) (by simp) ?_;refine zK (o:=_) rfl (fun K hK=>?_) ?_
  .go_simp;refine(kc.o _ _ _).q fun W2 hW=>?_;obtain rfl:=hW.symm;rw[<-ai.o];refine hK.o _ _ (ad.o _ ae.o af.o) (fun _=>?_);clear hK K
   try simp only[Act.put,zA,zD,zC]
   have aj:Hid (Bk (wd.alloc (.cells #[.int .i64 d0,.int .i64 d1] 3)) xb 69 [.int .i64 a0,.int .i64 a1]):=ae.o.alloc _;have ak:Hid (Bk (wd.alloc (.cells #[.int .i64 d0,.int .i64 d1] 3)) yb 69 [.int .i64 b0,.int .i64 b1]):=af.o.alloc _;have aw:Hid (∃q os,wd.alloc (.cells #[.int .i64 d0,.int .i64 d1] 3)=grow (w0.drewN q) os):=Li al.o _;have ag:Bk (wd.alloc (.cells #[.int .i64 d0,.int .i64 d1] 3)) wd.heap.size 3 [.int .i64 d0,.int .i64 d1]:=Bk.new _ _ _;have ko:=zh (XB wd.heap.size d0 d1 _ (ag.c0) (ag.c1) ag.lt);clear ag;have av:Hid ((if d0=0 then d1 else d0)=R):=by rw[ah.o,ai.o];exact hR.o.symm
   rw[av.o]at ko;refine zT (rs:=[10]) (by kernel_rfl) (by simp) ?_;refine zK (o:=_) rfl (fun K hK=>?_) ?_
   .go_simp;refine hK.o _ _ (ad.o _ aj.o ak.o) (fun _=>?_);clear hK K
    try simp only[Act.put,zA,zD,zC]
    refine zT (rs:=[11]) (by kernel_rfl) (by simp) ?_;refine zK (o:=_) rfl (fun K hK=>?_) ?_
    .go_simp;refine ko.o.q fun W2 hW=>?_;obtain rfl:=hW.symm;refine hK.o _ _ (ad.o _ aj.o ak.o) (fun _=>?_);clear hK K
     try simp only[Act.put,zA,zD,zC]
     refine tkhH (v:=?_) 12 rfl (ad.o _ aj.o ak.o) (Or.inl ⟨by rfl,?_⟩) ?_;rotate_left
     . (intro w d;obtain⟨q1,q2,q3,q4⟩:=d;go_simp<;>with_reducible rfl)
     try simp only[Act.put,zA]
     refine xJ (by kernel_rfl) ?_ _;refine yx ?_;exact h.o _ _ _ _ _ _ _ _ _ _ _ _ _ aw.o
    exact zR
   exact zR
  exact zR
 exact zR
theorem Uz(x y:Int×Int)(w:World):Calls prog 68 #[.agg #[.int .i64 x.1,.int .i64 x.2],.agg #[.int .i64 y.1,.int .i64 y.2]] w fun e w'=>e=.returned (.int .i64 (Lh x y))/\∃q os,w'=grow (w.drewN q) os:=by
 obtain⟨a0,a1⟩:=x;obtain⟨b0,b1⟩:=y;have hx:Hid (Bk ((w.alloc (.cells #[.int .i64 a0,.int .i64 a1] 69)).alloc (.cells #[.int .i64 b0,.int .i64 b1] 69)) w.heap.size 69 [.int .i64 a0,.int .i64 a1]):=(Bk.new w _ _).alloc _;have d:Bk ((w.alloc (.cells #[.int .i64 a0,.int .i64 a1] 69)).alloc (.cells #[.int .i64 b0,.int .i64 b1] 69)) (w.heap.size+1) 69 [.int .i64 b0,.int .i64 b1]:=by have h:=Bk.new (w.alloc (.cells #[.int .i64 a0,.int .i64 a1] 69)) 69 [.int .i64 b0,.int .i64 b1];simpa using h
 have hy:=zh d;have hg:Hid (∃q os,(w.alloc (.cells #[.int .i64 a0,.int .i64 a1] 69)).alloc (.cells #[.int .i64 b0,.int .i64 b1] 69)=grow (w.drewN q) os):=Li (Li ⟨0,#[],(grow_empty _).symm⟩ _) _;clear d;go_enter func68,ntmps68;go_wp2;refine cm1 w.heap.size (w.heap.size+1) a0 a1 b0 b1 _ w hx.o hy.o hg.o ?_;intro u5 u6 u7 u8 u9 u10 u11 u12 u13 u14 u15 u16 W hW;go_wp2;go_ret;exact⟨rfl,hW⟩
def Cb(x:Int×Int):List Value:=[.int .i64 x.1,.int .i64 x.2]
def KLt(x y:Int×Int):Prop:=x.1<y.1\/(x.1=y.1/\x.2<y.2)
instance (x y:Int×Int):Decidable (KLt x y):=inferInstanceAs (Decidable (_\/_))
theorem ltK(x y:Int×Int):ltOf Lh x y=decide (KLt x y):=by
 unfold ltOf Lh KLt Lib.compareInt
 by_cases h1:x.1<y.1
 .simp[h1]
 by_cases h2:y.1<x.1
 .have:¬x.1=y.1:=by omega
  simp[h1,h2,this]
 have h3:x.1=y.1:=by omega
 by_cases h4:x.2<y.2
 .simp[h3,h4]
 by_cases h5:y.2<x.2<;>simp[h3,h4,h5]
theorem YX:SWO (ltOf Lh) where
 irrefl x:=by rw[ltK];exact zH (by unfold KLt;omega)
 trans x y z h1 h2:=by
  rw[ltK]at *;have h1:=zL h1;have h2:=zL h2;refine zG ?_;unfold KLt at *;omega
 ntrans x y z h1 h2:=by
  rw[ltK]at *;have h1:=yA h1;have h2:=yA h2;refine zH ?_;unfold KLt at *;omega
theorem U0(blk off cap:Nat)(d:Array (Int×Int))(w:World)(hH:HoldsK Cb 2 w blk off d)(h:blk<w.heap.size)(aa:d.size<4611686018427387904):
 Calls prog 114 #[.slice (some ⟨blk,off,none⟩) d.size cap,.func (.func 68) #[] #[]] w fun e w' =>
  e=.returned (.tuple #[])/\∃d' n os,PermIn 0 d.size d d'/\SortedIn (ltOf Lh) 0 d.size d'/\w'=sortWorldK Cb 2 w blk off n d' os :=
 AnyQ.slices_SortFunc Tryz.sortK 2 Tryz.isAgg69 Tryz.sizeOf69 Cb (fun _=>rfl) (fun x v hv=>by simp[Cb]at hv;rcases hv with rfl|rfl<;>rfl) Lh YX 68 #[] blk off cap d w
  (enters_of func68 (by kernel_rfl) rfl) (fun _ _ _ _ x y=>Uz x y _) hH h aa
end Rg
end
section
open Go.RowKit Go.Shelf Go.Sort Go.Maps
namespace Rg
open Nt Ci
theorem Lj{P:Program}{m:Nat}{t ti:TypeId}{f1 f2:Field}(hu:P.underlying t=some (.struct #[f1, f2]))(hc:P.cellsOf t=2)(n1:f1.name≠"_")(n2:f2.name≠"_")(o1:f1.offset=0)(o2:f2.offset=1)(t1:f1.type=ti)(t2:f2.type=ti)
 (ui:P.underlying ti=some (.int .i64))(ci:P.cellsOf ti=1)(hm:P.types.size+1=m+2){v:Value}{kl:Lit}(h:keyOf P t v=some kl):
 ∃a b:Int,v=.agg #[.int .i64 a,.int .i64 b]/\(Lit.int .i64 a).wf=true/\(Lit.int .i64 b).wf=true:=by
 unfold keyOf at h;rw[hu]at h;simp only[hm]at h
 split at h
 .rename_i hk;rw[zr]at hk;obtain⟨_,hf⟩:=hk
  cases v<;>simp[Value.formed,hu,hc]at hf
  rename_i cs;obtain⟨l⟩:=cs
  match l,hf with
  | [a,b],_=>
    subst t1;simp[Program.keyLits,hu,hc,n1,n2,o1,o2,ui,ci,t2,Value.cells]at h
    cases a<;>simp at h
    rename_i q _
    split at h
    rotate_left
    .simp at h
    rename_i hq;obtain⟨rfl,d⟩:=hq
    cases b<;>simp at h
    rename_i q2 _
    split at h
    rotate_left
    .simp at h
    rename_i hq2;obtain⟨rfl,aa⟩:=hq2;exact⟨q,q2,rfl,d,aa⟩
 cases h
theorem Idq{a:Int}(h:(Lit.int .i64 a).wf=true):H9 a:=by
 have h1:IntKind.i64.min<=a/\a<=IntKind.i64.max:=by simpa [Lit.wf] using h
 exact h1
theorem M8{v:Value}{kl:Lit}(h:keyOf prog 69 v=some kl):∃x:Kk,v=.agg #[.int .i64 x.1.1,.int .i64 x.1.2]/\kl=κk x:=by
 obtain⟨m,hm⟩:=WD;obtain⟨a,b,rfl,ha,hb⟩:=Lj underlying69 O1 (by decide) (by decide) rfl rfl rfl rfl underlying3 Pu hm h;refine⟨⟨(a,b),Idq ha,Idq hb⟩,rfl,?_⟩;have:=M7 ⟨(a,b),Idq ha,Idq hb⟩;rw[show keyOf _ _ _=_ from h]at this;exact Option.some.inj this
def Jt(x:Kk):Value:=.agg #[.int .i64 x.1.1,.int .i64 x.1.2]
theorem U1{x y:Kk}(h:Jt x=Jt y):x=y:=by
 unfold Jt at h;simp only[Value.agg.injEq,Array.mk.injEq,List.cons.injEq,Value.int.injEq,true_and,and_true]at h;exact Subtype.ext (Prod.ext h.1 h.2)
theorem Pv(x y:Kk):(κk x).sameKey (κk y)=decide (x=y):=by
 rw[xp,ye];constructor
 .intro h;refine Ux x y ?_;unfold κk at *
  simpa [Lit.sameKey] using h
 rintro rfl;unfold κk;simp[Lit.sameKey]
def CollK(D0:DataW Value)(left:Lit->Bool)(ss:List Kk):Prop:=ss.Nodup/\∀x:Kk,x∈ss<->(has D0 (κk x)=true/\left (κk x)=false)
theorem CollK.start(D0:DataW Value):CollK D0 (has D0) []:=⟨vL,fun x=>⟨fun h=>absurd h yZ,fun h=>by rw[h.1]at h;cases h.2⟩⟩
theorem CollK.step{D0:DataW Value}{left:Lit->Bool}{ss:List Kk}(h:CollK D0 left ss){x:Kk}{y:DataW Value}(hl:left (κk x)=true)(d:∀z,D0.atKey (κk x) z=y):CollK D0 (fun z=>left z&&!z.sameKey (κk x)) (ss++[x]):=by
 have hh:has D0 (κk x)=true:=has_true_of_atKey d;refine⟨List.nodup_append.2 ⟨h.1,by simp,fun a ha b hb c=>?_⟩,fun z=>?_⟩
 .rw[List.mem_singleton.1 hb]at c;subst c;have:=((h.2 a).1 ha).2;rw[hl]at this;cases this
 rw[yc,xE,h.2 z]
 by_cases e:z=x
 .subst e;exact⟨fun _=>⟨hh,by show (left (κk z)&&!(κk z).sameKey (κk z))=false;rw[Pv,zG rfl];simp⟩,fun _=>.inr rfl⟩
 show _<->has D0 (κk z)=true/\(left (κk z)&&!(κk z).sameKey (κk x))=false
 rw[Pv,zH e];simp[e]
theorem U2(n:Nat)(hn:1<=n)(l Bm b nn:Nat)(D0:DataW Value){R:Value->Option (DataW Value×List MemPlace)}(J:List Kk->World->Prop)
 (hY:∀pre x W,J pre W->pre.length<Maps.size D0->YieldAt Fence.wide (n-1) prog l #[Jt x] W fun e W'=>e=.returned (.bool true)/\J (pre++[x]) W'/\KeepsWalks W W')
 (W:World)(hJ:AbidesFrom W.heap.size J)(hm:W.cell? ⟨Bm,0,none⟩=some (.map (some b)))(ae:W.ownsMap prog 69 R b nn D0)(h0:J [] W):
 CallsIn Fence.wide n prog 115 #[.func (.yield l) #[] #[],.pointer (some ⟨Bm,0,none⟩)] W fun e W'=>(∃v,e=.returned v)/\∃ss:List Kk,(ss.Nodup/\∀x,x∈ss<->has D0 (κk x)=true)/\ss.length<=Maps.size D0/\J ss W':=by
 refine vW func115 rfl trivial ?_ rfl;simp only[ntmps115,yq,zZ,yR,Nat.reduceAdd,Nat.reduceSub,yW,yX,yv,yj,yM,yY]
 gi_wp2_with (first
  |(gi_at_range;refine wpListIn_range_own _ rfl _ 64 rfl 69 3 FW underlying64 _ b nn _ rfl ae ?_;intro w0 af an ay)
  |gi_in)
 go_frame
 gi_loopw [6] (fun _ wr=>∃(left:Lit->Bool)(cnt:Nat)(ss:List Kk),wr.ranges prog 69 R b W.heap.size nn D0 left cnt/\ss.length+cnt<=Maps.size D0/\CollK D0 left ss/\J ss wr)
  (fun _ wr=>wr.rangeLeft b W.heap.size)
 case atStart=>exact⟨_,_,[],af,by simp,CollK.start D0,hJ [] W w0 none h0 an (fun r e=>by cases e)⟩
 case round=>
  obtain⟨left,cnt,ss,h,ax,hC,aa⟩:=hrel
  gi_wp2_with (first
   |(gi_at_next;refine wpListIn_next_ranges _ rfl _ rfl 69 FW R Jt id (fun key kl hk=>by obtain⟨x,hx,_⟩:=M8 hk;exact⟨x,hx⟩) (fun v _ _=>⟨v,rfl⟩) b W.heap.size nn _ _ _ rfl h ?_ ?_)
   |gi_in)
  .intro aw aq
   gi_wp2
   go_end0;exact⟨⟨_,rfl⟩,ss,⟨hC.1,fun x=>by rw[hC.2 x,aq];simp⟩,by omega,aa⟩
  intro x c kl yd yp w2 cnt2 ad ar hv al ag au ao av am;obtain⟨x',ex,rfl⟩:=M8 ad;obtain rfl:x=x':=U1 ex;have ai:J ss w2:=hJ ss wr w2 (some W.heap.size) aa ao (fun r e=>by cases e;exact⟨zB _,h.iter_walk⟩);clear av;have aj:J ss (w2.alloc (.cells #[.int .i64 x.1.1,.int .i64 x.1.2] 69)):=hJ ss w2 _ none ai (World.grownBy_alloc _ _ _) (fun r e=>by cases e);have ah:=ag.alloc (.cells #[.int .i64 x.1.1,.int .i64 x.1.2] 69);obtain⟨fn,tmps,assign,body,hy,hR⟩:=hY ss x _ aj (by omega);unfold Jt at am hy ⊢
  gi_wp2
  refine hR.mono ?_;intro e W3 h9;obtain⟨rfl,ak,ap⟩:=h9
  gi_wp2
  have d:=ah.of_walks ap
  go_roundw
  case rel=>exact⟨_,cnt2,ss++[x],d,by simp;omega,hC.step ar al,ak⟩
  case measure=>rw[d.left_eq,h.left_eq];exact au
theorem Rj(mb:Option Nat)(w:World):Calls prog 67 #[.map mb] w fun e w' =>
 e=.returned (.func (.func 115) #[] #[.pointer (some ⟨w.heap.size,0,none⟩)])/\w'=w.alloc (.cells #[.map mb] 64):=by
 go_enter func67,ntmps67;go_wp2;go_ret;exact⟨rfl,rfl⟩
end Rg
end
section
open Go.RowKit Go.Shelf Go.Sort
namespace Rg
open Nt Ci
def F7(ps:List ByteArray)(D:List Ct)(x:Int×Int):Lk:=(x.1,x.2,rqR (ofQ (tot D (nm ps x.1,nm ps x.2)) 6000))
theorem U5{ps:List ByteArray}{D:List Ct}{ks:List (Int×Int)}(hp:ps.length<=1000000)(h1:ks.Pairwise KLt)(h2:∀x,x∈ks->H9 x.1/\H9 x.2)(h3:∀x:Kk,x.1∈ks<->Lf ps D x.1):IsLinks ps D (ks.map (F7 ps D)):=by
 refine⟨List.pairwise_map.2 (h1.imp fun h=>h),fun y hy=>?_,fun i j hi hj hv=>?_⟩
 .obtain⟨x,hx,rfl⟩:=List.mem_map.1 hy;obtain⟨a,b,c,d,v⟩:=(h3 ⟨x,h2 x hx⟩).1 hx;obtain⟨x1,x2⟩:=x;simp only at a b c d v;obtain⟨i,rfl⟩:∃i:Nat,x1=i:=⟨x1.toNat,by omega⟩;obtain⟨j,rfl⟩:∃j:Nat,x2=j:=⟨x2.toNat,by omega⟩;rw[wZ]at c d;rw[Fc c,Fc d]at v;refine⟨i,j,c,d,rfl,rfl,v,?_⟩;unfold F7 lkP;simp only;rw[Fc c,Fc d]
 have hk:Lf ps D ((i:Int),(j:Int)):=⟨by omega,by omega,by simpa using hi,by simpa using hj,by rw[Fc hi,Fc hj];exact hv⟩;have aa:H9 (i:Int)/\H9 (j:Int):=by unfold H9;omega
 exact⟨_,wj ((h3 ⟨((i:Int),(j:Int)),aa⟩).2 hk),rfl,rfl⟩
theorem Ll{d d':Array (Int×Int)}(hp:PermIn 0 d.size d d')(hs:SortedIn (ltOf Lh) 0 d.size d')(nd:d.toList.Nodup):d'.toList.Pairwise KLt/\d'.toList.Perm d.toList:=by
 obtain⟨h1,_,h2⟩:=hp;have e1:d.extract 0 d.size=d:=by simp
 have e2:d'.extract 0 d.size=d':=by rw[<-h1];simp
 rw[e1,e2]at h2;refine⟨List.pairwise_iff_getElem.2 fun i j hi hj ad=>?_,h2⟩;have aa:i<d'.size:=by simpa using hi
 have ae:j<d'.size:=by simpa using hj
 have h:=hs i j (zS _) ad (by omega);rw[getElem!_pos d' i aa,getElem!_pos d' j ae,ltK]at h;have h:=yA h
 have ne:d'.toList[i]≠d'.toList[j]:=fun e=>by
  have:=(List.getElem_inj (h2.nodup_iff.2 nd)).1 e;omega
 rw[Array.getElem_toList,Array.getElem_toList]at ne ⊢;have nc:¬(d'[i].1=d'[j].1/\d'[i].2=d'[j].2):=fun c=>ne (Prod.ext c.1 c.2);unfold KLt at *;omega
theorem M9:∀(l:List (Int×Int)) (t:Nat) (h:t<l.length),(l.flatMap Cb)[t*2]? = some (.int .i64 l[t].1)/\(l.flatMap Cb)[t*2+1]? = some (.int .i64 l[t].2)
 | [],_,h=>absurd h (yB _)
 |x::l,0,_=>by simp[Cb]
 |x::l,t+1,h=>by
  have:=M9 l t (by simpa using h);rw[show (t+1)*2=t*2+1+1 from by omega]
  simpa [Cb] using this
theorem Rk{w:World}{base g cap:Nat}{e:TypeId}{l:List (Int×Int)}(h:w.ownsRow base e 2 (.slice (some ⟨g,0,none⟩) l.length cap) l.length (l.flatMap Cb)):HoldsK Cb 2 w g 0 l.toArray:=by
 intro j hj;rw[size_flatK]at hj;have hj:j<l.length*2:=by simpa using hj
 have hd:j/2<l.length:=by omega
 have e:(flatK Cb 2 l.toArray)[j]! = (Cb l[j/2])[j%2]!:=by
  rw[get_flatK _ _ _ _ (by simpa using hj),getElem!_pos l.toArray (j/2) (by simpa using hd)];rfl
 rw[yS,h.cellAt j hj,h.frozenAt j,e];refine⟨?_,rfl⟩;have hf:=M9 l (j/2) hd
 rcases Nat.mod_two_eq_zero_or_one j with m|m
 .have q:(l.flatMap Cb)[j]? = (l.flatMap Cb)[j/2*2]?:=by congr 1;omega
  rw[m,q,hf.1];rfl
 have q:(l.flatMap Cb)[j]? = (l.flatMap Cb)[j/2*2+1]?:=by congr 1;omega
 rw[m,q,hf.2];rfl
def Y4(w:World)(A:Option Addr)(ks:List (Int×Int)):Prop:=0<ks.length->∃b off,A=some ⟨b,off,none⟩/\b<w.heap.size/\∀j (h:j<ks.length),w.cell? ⟨b,off+j*2,none⟩=some (.int .i64 ks[j].1)/\w.cell? ⟨b,off+j*2+1,none⟩=some (.int .i64 ks[j].2)
theorem Wf{w:World}{g:Nat}{d:Array (Int×Int)}(h:HoldsK Cb 2 w g 0 d)(hb:g<w.heap.size):Y4 w (some ⟨g,0,none⟩) d.toList:=fun _=>⟨g,0,rfl,hb,fun j hj=>by
 have aa:j<d.size:=by simpa using hj
 have a:=(h.cell (i:=j) (c:=0) aa (by decide)).1;have b:=(h.cell (i:=j) (c:=1) aa (by decide)).1;rw[getElem!_pos d j aa]at a b;exact⟨a,b⟩⟩
end Rg
end
section
open Go.RowKit Go.Shelf Go.Sort Go.Maps
namespace Rg
open Nt Ci
def apA:Code := .region 2 #[{ dst := some 5, op := .alloc 69, type := 0, pos := "iter.go:51", after := #[], guard := none }, { dst := none, op := .store 69 (.tmp 5) (.tmp 7), type := 0, pos := "iter.go:51", after := #[{ on := 0, ground := .data }, { on := 0, ground := .phase }], guard := none }] false
def apB:Code := .block 1 (.region 3 #[{ dst := some 8, op := .load 124 (.tmp 2), type := 124, pos := "iter.go:52", after := #[], guard := none }, { dst := some 9, op := .load 69 (.tmp 5), type := 69, pos := "iter.go:52", after := #[], guard := none }, { dst := some 10, op := .buildSlice 124 1 #[(0, .tmp 9)], type := 124, pos := "iter.go:52", after := #[{ on := 1, ground := .data }], guard := none }, { dst := some 11, op := .call { callee := .builtin .append, args := #[.tmp 8, .tmp 10], argTypes := #[124, 124] }, type := 124, pos := "iter.go:52", after := #[{ on := 0, ground := .data }, { on := 2, ground := .data }], guard := none }, { dst := none, op := .store 124 (.tmp 2) (.tmp 11), type := 0, pos := "iter.go:52", after := #[{ on := 3, ground := .data }, { on := 3, ground := .chain }, { on := 0, ground := .phase }, { on := 1, ground := .phase }, { on := 2, ground := .phase }, { on := 3, ground := .phase }], guard := none }] false)
def apL(fn:FuncId)(sv:Value)(B D:Nat)(st:LoopState):Loop :=
 { state:=st,pending:=none,fn:=fn,tmps:=#[.slice none 0 0,sv,.pointer (some ⟨B,0,none⟩),undef,.slice none 0 0,undef,sv,undef,undef,undef,undef,undef,undef],params:=#[7],assign:=apA,body:=apB,defers:=D }
def kl(ss:List Kk):List (Int×Int):=ss.map fun x:Kk=>(x.1:Int×Int)
structure ApK(w0:World)(Lo:Loop)(B l D:Nat)(ss:List Kk)(W:World):Prop where
 box:∃v,W.heap[B]? = some (.cells #[v] 124 (0,0))/\W.ownsRow w0.heap.size 69 2 v ss.length ((kl ss).flatMap Cb)
 lo:W.heap[l]? = some (.loop Lo)
 df:W.heap[D]? = some (.deferred (some []))
 low:Below w0.heap.size w0 W
theorem ApK.abides(w0:World)(Lo:Loop)(B l D S:Nat)(hS:w0.heap.size<=S):AbidesFrom S (ApK w0 Lo B l D):=fun s W W' row h hg d=>by
 have hr:∀r,row=some r->∃o:Obj,W.heap[r]? = some o/\o.isWalk=true:=fun r e=>(d r e).2;obtain⟨v,hv,ho⟩:=h.box;exact⟨⟨v,(grownBy_keeps hg hr hv rfl).trans hv,ownsRow_abides_a ho hg hr⟩,(grownBy_keeps hg hr h.lo rfl).trans h.lo,(grownBy_keeps hg hr h.df rfl).trans h.df,h.low.grown hg h.low.size fun k e=>zQ hS (d k e).1⟩
theorem Wg(ss:List Kk)(x:Kk):(kl (ss++[x])).flatMap Cb=(kl ss).flatMap Cb++Cb x.1:=by
 unfold kl;rw[yD,List.flatMap_append]
 show _++(Cb x.1++[])=_
 rw[xV]
theorem Y5:(prog.info? 69).map (fun i=>(i.zero,i.size,i.bytes))=some (some (.agg #[.int .i64 0,.int .i64 0]),2,16):=by kernel_rfl
theorem IY{W:World}{base:Nat}{e:TypeId}{v:Value}{k:Nat}{xs:List Value}(h:W.ownsRow base e 2 v k xs):∃A c,v=.slice A k c:=by
 rcases h.2 with⟨rfl,rfl⟩|⟨g,cap,cur,rfl,_⟩
 .exact⟨none,0,rfl⟩
 exact⟨_,cap,rfl⟩
theorem Pw:(124:TypeId)≠69:=by decide
theorem ApK.put{w0:World}{Lo:Loop}{B l D:Nat}{ss:List Kk}{W:World}(h:ApK w0 Lo B l D ss W)(h1:B≠l)(h2:D≠l)(h5:w0.heap.size<=l)(L2:Loop):ApK w0 L2 B l D ss (W.putObj l (.loop L2))/\KeepsWalks W (W.putObj l (.loop L2)):=by
 obtain⟨v,hv,ho⟩:=h.box;have hg:=grownBy_putObj_a W l (.loop L2);exact⟨⟨⟨v,(yU h1).trans hv,ho.kept hg (ownsRow_ne_a ho h.lo fun cur e=>by cases e)⟩,World.putObj_heap_same (Array.getElem?_eq_some_iff.1 h.lo).1,(yU h2).trans h.df,h.low.grown hg h.low.size fun k e=>by cases e;exact h5⟩,KeepsWalks.putObj _ h.lo rfl⟩
theorem ApK.alloc{w0:World}{Lo:Loop}{B l D:Nat}{ss:List Kk}{W:World}(h:ApK w0 Lo B l D ss W)(o:Obj):ApK w0 Lo B l D ss (W.alloc o):=by
 obtain⟨v,hv,ho⟩:=h.box;have old:∀{k:Nat} {q:Obj},W.heap[k]? = some q->(W.alloc o).heap[k]? = some q:=fun hk=>(yP W o _ (Array.getElem?_eq_some_iff.1 hk).1).trans hk;exact⟨⟨v,old hv,ho.alloc o⟩,old h.lo,old h.df,h.low.alloc h.low.size o⟩
theorem ApK.step{w0:World}{Lo:Loop}{B l D:Nat}{ss ts:List Kk}{W W1:World}(h:ApK w0 Lo B l D ss W)(hb:B≠l)(hd:D≠B)(h4:w0.heap.size<=B){v v':Value}(hv:W.heap[B]? = some (.cells #[v] 124 (0,0)))
 (ho:W.ownsRow w0.heap.size 69 2 v ss.length ((kl ss).flatMap Cb))(hg:W.grownBy W1 v.ownBlock)(af:W1.ownsRow w0.heap.size 69 2 v' ts.length ((kl ts).flatMap Cb)):
 W1.heap[B]? = some (.cells #[v] 124 (0,0))/\ApK w0 Lo B l D ts (W1.setCell ⟨B,0,none⟩ v')/\KeepsWalks W (W1.setCell ⟨B,0,none⟩ v'):=by
 have far:∀{j:Nat} {o:Obj},W.heap[j]? = some o->(∀cur,o≠.cells cur 69 (0,0))->W1.heap[j]? = some o:=fun hj ag=>by
  refine(hg.block _ (Array.getElem?_eq_some_iff.1 hj).1 fun e=>?_).trans hj
  rcases ownsRow_ne_a ho hj ag with q|q
  .rw[q]at e;cases e
  exact q e.symm
 have d:=far hv fun cur e=>by first|cases e|exact Pw (Obj.cells.inj e).2.1
 have ae:=far h.lo fun cur e=>by cases e
 have ad:=far h.df fun cur e=>by cases e
 have hs:=grownBy_setCell0_a W1 B v';have aa:Below w0.heap.size w0 W1:=h.low.grown hg h.low.size fun k e=>(ho.lt k e).1;refine⟨d,⟨⟨v',heap_setCell_box_a v' d,af.kept hs (ownsRow_ne_a af d fun cur e=>by first|cases e|exact Pw (Obj.cells.inj e).2.1)⟩,(hs.block l (Array.getElem?_eq_some_iff.1 ae).1 fun e=>hb (by cases e;rfl)).trans ae,(hs.block D (Array.getElem?_eq_some_iff.1 ad).1 fun e=>hd (by cases e;rfl)).trans ad,aa.grown hs aa.size fun k e=>by cases e;exact h4⟩,?_⟩;exact(KeepsWalks.of_grownBy hg (ownsRow_not_walk_a ho)).trans (KeepsWalks.setCell _ _ _)
theorem U6(w:World)(a b:Value)(t:TypeId):∀j u,[a,b][j]? = some u->(w.alloc (.cells #[a,b] t)).cell? (Addr.add ⟨w.heap.size,0,none⟩ j)=some u:=by
 intro j u hj
 match j,hj with
 |0,hj=>simp at hj;subst hj;simp[Addr.add]
 |1,hj=>simp at hj;subst hj;simp[Addr.add]
 |j+2,hj=>simp at hj
theorem Rl(m:Nat)(w0:World)(fn:FuncId)(sv:Value)(B l D:Nat)(h1:B≠l)(h2:D≠l)(h3:D≠B)(h4:w0.heap.size<=B)(h5:w0.heap.size<=l)(ss:List Kk)(x:Kk)(W:World)(h:ApK w0 (apL fn sv B D .ready) B l D ss W)(az:ss.length<1000000000):
 YieldAt Fence.wide m prog l #[Jt x] W fun e W'=>e=.returned (.bool true)/\ApK w0 (apL fn sv B D .ready) B l D (ss++[x]) W'/\KeepsWalks W W':=by
 obtain⟨i0,hi,av,aw,ax⟩:=vX Y5;have hy:=run_yield (P:=prog) (args:=#[Jt x]) h.lo rfl;refine⟨fn,#[.slice none 0 0,sv,.pointer (some ⟨B,0,none⟩),undef,.slice none 0 0,undef,sv,Jt x,undef,undef,undef,undef,undef],apA,apB,by simpa [apL] using hy,roundIn_of_wpIn trivial ?_⟩;obtain⟨W1,af⟩:∃q,W.alloc (.cells #[.int .i64 x.1.1,.int .i64 x.1.2] 69)=q:=⟨_,rfl⟩;have ae:ApK w0 (apL fn sv B D .ready) B l D ss W1:=by rw[<-af];exact h.alloc _
 have ap:KeepsWalks W W1:=by rw[<-af];exact KeepsWalks.alloc _ _
 have al:Bk W1 W.heap.size 69 [.int .i64 x.1.1,.int .i64 x.1.2]:=by rw[<-af];exact Bk.new _ _ _
 have aE:l<W.heap.size:=(Array.getElem?_eq_some_iff.1 h.lo).1;have ak:=run_beginRound (P:=prog) ae.lo rfl;obtain⟨aa,hk⟩:=ae.put h1 h2 h5 (apL fn sv B D .busy);have ad:Bk (W1.putObj l (.loop (apL fn sv B D .busy))) W.heap.size 69 [.int .i64 x.1.1,.int .i64 x.1.2]:=(yU (by omega)).trans al;obtain⟨W3,aj⟩:∃q,W1.putObj l (.loop (apL fn sv B D .busy))=q:=⟨_,rfl⟩;have ay:_=Result.ok _ W3:=ak.trans (by rw[<-aj];rfl);rw[aj]at aa hk ad;clear ak h ae al;have ah:=aa.alloc (.cells #[.int .i64 x.1.1,.int .i64 x.1.2] 69);obtain⟨v,hv,ho⟩:=ah.box;obtain⟨v2,ag,aF⟩:=aa.box;obtain⟨aA,aC⟩:=cell_of_box_a ag;have an:B<W3.heap.size:=(Array.getElem?_eq_some_iff.1 ag).1;obtain rfl:v=v2:=by have:=(yP W3 (.cells #[.int .i64 x.1.1,.int .i64 x.1.2] 69) B an).symm.trans hv;rw[ag]at this;injection this with this;injection this with this;simpa using this.symm
 have x0:=ad.c0;have x1:=ad.c1;have x9:=ad.lt;unfold apA Jt
 gi_wp2_with gi_round_op_a
 unfold apB
 gi_wp2_with (first
  |(gi_at_builtin;refine wpListIn_append_own _ rfl _ _ 124 rfl w0.heap.size 69 i0 (.agg #[.int .i64 0,.int .i64 0]) 2 16 underlying124 hi av aw ax rfl (by decide) _ _ _ rfl ho ⟨W3.heap.size,0,none⟩ 1 1 (Cb x.1) rfl rfl (U6 _ _ _ _) (by intro u hu;simp[Cb]at hu;rcases hu with rfl|rfl<;>rfl) (by unfold maxLen;omega) (by omega) (by have:=aa.low.size;simp;omega) ?_;intro v' W4 d ao _
    obtain⟨A',c',rfl⟩:=IY d;rw[<-Wg]at d;obtain⟨au,ai,aq⟩:=ah.step (ts:=ss++[x]) h1 h3 h4 hv ho ao (by rw[zX];exact d);obtain⟨aB,aD⟩:=cell_of_box_a au
    go_frame)
  |gi_round_op_a)
 obtain⟨am,ar⟩:=ai.put h1 h2 h5 (apL fn sv B D .ready);exact⟨_,_,run_endRound none ai.lo,rfl,am,(((ap.trans hk).trans (KeepsWalks.alloc _ _)).trans aq).trans ar⟩
theorem U7(Bm b nn:Nat)(D0:DataW Value){R:Value->Option (DataW Value×List MemPlace)}(w:World)(an:Bm<w.heap.size)(hm:w.cell? ⟨Bm,0,none⟩=some (.map (some b)))(ad:w.ownsMap prog 69 R b nn D0)(hs:Maps.size D0<=1000000):
 Calls prog 144 #[.slice none 0 0,.func (.func 115) #[] #[.pointer (some ⟨Bm,0,none⟩)]] w fun e w' =>
  ∃v ss,e=.returned v/\(ss.Nodup/\∀x,x∈ss<->has D0 (κk x)=true)/\ss.length<=Maps.size D0/\w'.ownsRow w.heap.size 69 2 v ss.length ((kl ss).flatMap Cb)/\Below w.heap.size w w':=by
 refine(wJ (n:=3)).1 ?_;refine xW func144 rfl trivial ?_ rfl;simp only[ntmps144,yq,zZ,yR,Nat.reduceAdd,Nat.reduceSub,yW,yX,yv,yj,yM,yY]
 gi_wp2
 refine wpIn_rangeFunc ?_;intro fn aw;obtain⟨sv,aj⟩:∃q,Value.func (.func 115) #[] #[.pointer (some ⟨Bm,0,none⟩)]=q:=⟨_,rfl⟩;obtain⟨W0,h⟩:∃q,w.alloc (.cells #[.slice none 0 0] 124)=q:=⟨_,rfl⟩;have aq:W0.heap.size=w.heap.size+1:=by rw[<-h];simp
 have ar:W0.heap[w.heap.size]? = some (.cells #[.slice none 0 0] 124 (0,0)):=by rw[<-h];exact World.alloc_heap_new w _
 have af:Below w.heap.size w W0:=by rw[<-h];exact(zI _ w).alloc (zB _) _
 rw[h];obtain⟨W1,d⟩:∃q,(W0.alloc (.deferred (some []))).alloc (.loop (apL fn sv w.heap.size W0.heap.size .ready))=q:=⟨_,rfl⟩
 have DT:∀k,k<W0.heap.size->W1.heap[k]? = W0.heap[k]?:=fun k hk=>by
  rw[<-d];exact(yP _ _ k (by simp;omega)).trans (yP _ _ k hk)
 have hA:ApK w (apL fn sv w.heap.size W0.heap.size .ready) w.heap.size (W0.heap.size+1) W0.heap.size [] W1 :=
  ⟨⟨_,(DT _ (by omega)).trans ar,yf _ _ _ _⟩,
   by rw[<-d];have:=World.alloc_heap_new (W0.alloc (.deferred (some []))) (.loop (apL fn sv w.heap.size W0.heap.size .ready));rwa [zV]at this,
   by rw[<-d];exact(yP _ _ _ (by simp)).trans (World.alloc_heap_new W0 _),by rw[<-d];exact(af.alloc af.size _).alloc (by have:=af.size;simp;omega) _⟩
 have ai:W1.ownsMap prog 69 R b nn D0:=by
  have ao:=ad.lt;obtain⟨es,clock,hb,Ft,ap,hD⟩:=ad;exact⟨es,clock,(hA.low.block b ao).trans hb,Ft,ap,hD⟩
 have al:(Instr.enterLoop fn #[.slice none 0 0,sv,.pointer (some ⟨w.heap.size,0,none⟩),undef,.slice none 0 0,undef,sv,undef,undef,undef,undef,undef,undef] #[7] apA apB none).run prog W0=.ok (W0.heap.size+1,[{ target:=.collected W0.heap.size,args:=#[] }]) W1:=by
  rw[<-d];exact run_enterLoop_outer _ _ _ _ _
 refine ⟨W0.heap.size+1,[{ target:=.collected W0.heap.size,args:=#[] }],W1,{ target:=.fn (.func 115) #[.pointer (some ⟨Bm,0,none⟩)],args:=#[.func (.yield (W0.heap.size+1)) #[] #[]] },W1,115,
  #[.func (.yield (W0.heap.size+1)) #[] #[],.pointer (some ⟨Bm,0,none⟩)],W1,?_,?_,?_,?_,fun _=>by decide,?_⟩
 .rw[aj];exact al
 .rw[aj];simp[resolve,<-aj,go_sem]
 .intro f' _;trivial
 .simp[invoke,go_sem]
 refine (U2 _ (by decide) (W0.heap.size+1) Bm b nn D0 (ApK w (apL fn sv w.heap.size W0.heap.size .ready) w.heap.size (W0.heap.size+1) W0.heap.size)
  (fun pre x W hJ hl=>Rl _ w fn sv w.heap.size (W0.heap.size+1) W0.heap.size (by omega) (by omega) (by omega) (zB _) (by omega) pre x W hJ (by omega))
  W1 (ApK.abides _ _ _ _ _ _ hA.low.size) ((hA.low.cell (p:=⟨Bm,0,none⟩) an).trans hm) ai hA).mono ?_
 rintro e W2 ⟨⟨v0,rfl⟩,ss,hS,ak,h2⟩;obtain⟨v,hv,ho⟩:=h2.box;have aa:=run_endLoop (P:=prog) h2.lo (by simp[apL]);obtain⟨h3,_⟩:=h2.put (by omega) (by omega) (by omega) (apL fn sv w.heap.size W0.heap.size .exhausted);have am:(W2.putObj (W0.heap.size+1) (.loop (apL fn sv w.heap.size W0.heap.size .exhausted))).heap[w.heap.size]? = _:=(yU (by omega)).trans hv;have ah:=ho.kept (grownBy_putObj_a W2 (W0.heap.size+1) (.loop (apL fn sv w.heap.size W0.heap.size .exhausted))) (ownsRow_ne_a ho h2.lo fun cur e=>by cases e);obtain⟨W3,ae⟩:∃q,W2.putObj (W0.heap.size+1) (.loop (apL fn sv w.heap.size W0.heap.size .exhausted))=q:=⟨_,rfl⟩;have ag:_=Result.ok _ W3:=aa.trans (by rw[<-ae];rfl);rw[ae]at h3 am ah;clear aa ae;obtain⟨au,av⟩:=cell_of_box_a am;refine⟨none,W3,ag,?_⟩
 gi_wp2
 rw[<-aq];refine⟨by simp,.inl ⟨_,_,rfl,xy h3.df,?_⟩⟩;exact⟨_,xO rfl _ _ _,v,ss,rfl,hS,ak,ah.kept (grownBy_putObj_a _ _ _) (ownsRow_ne_a ah h3.df fun cur e=>by cases e),h3.low.grown (grownBy_putObj_a _ _ _) h3.low.size fun k e=>by cases e;omega⟩
def XD(D0:DataW Value)(ss:List Kk):Prop:=(ss.Nodup/\∀x,x∈ss<->has D0 (κk x)=true)/\ss.length<=Maps.size D0
theorem Rm(Bm b nn:Nat)(D0:DataW Value){R:Value->Option (DataW Value×List MemPlace)}(w:World)(h:Bm<w.heap.size)(hm:w.cell? ⟨Bm,0,none⟩=some (.map (some b)))(d:w.ownsMap prog 69 R b nn D0)(hs:Maps.size D0<=1000000):
 Calls prog 113 #[.func (.func 115) #[] #[.pointer (some ⟨Bm,0,none⟩)]] w fun e w' =>
  ∃A c ss,e=.returned (.slice A (List.length ss) c)/\XD D0 ss/\w'.ownsRow w.heap.size 69 2 (.slice A ss.length c) ss.length ((kl ss).flatMap Cb)/\Below w.heap.size w w':=by
 have k1:=zh (U7 Bm b nn D0 w h hm d hs);clear hm d;go_enter func113,ntmps113
 go_wp2_with fail
 refine k1.o.mono ?_;rintro e w2 ⟨v,ss,rfl,h1,h2,h3,h4⟩;obtain⟨A,c,rfl⟩:=IY h3;clear k1;replace h3:=zh h3;go_wp2;go_ret;exact⟨A,c,ss,rfl,⟨h1,h2⟩,h3.o,h4⟩
theorem MA(w:World)(g off n:Nat)(d:Array (Int×Int))(os:Array Obj):w.grownBy (sortWorldK Cb 2 w g off n d os) (some g):=by
 refine⟨rfl,rfl,rfl,by simp[sortWorldK,putRowK],fun k hk h=>?_⟩;unfold sortWorldK putRowK;rw[heap_grow_old _ _ (by simpa using hk)];have:g≠k:=fun e=>h (by rw[e]);simp[putRow,mapBlock,Sort.ahead,Array.getElem?_modify,this]
theorem U8{ss:List Kk}(h:ss.Nodup):(kl ss).toArray.toList.Nodup:=h.map (f:=Subtype.val) (fun _ _ ne e=>ne (Subtype.ext e))
theorem MB(Bm b nn:Nat)(D0:DataW Value){R:Value->Option (DataW Value×List MemPlace)}(w:World)(ag:Bm<w.heap.size)(hm:w.cell? ⟨Bm,0,none⟩=some (.map (some b)))(ae:w.ownsMap prog 69 R b nn D0)(hs:Maps.size D0<=1000000):
 Calls prog 66 #[.func (.func 115) #[] #[.pointer (some ⟨Bm,0,none⟩)],.func (.func 68) #[] #[]] w fun e w' =>
  (∃A c ks ss,e=.returned (.slice A (List.length ks) c)/\Y4 w' A ks/\XD D0 ss/\ks.Pairwise KLt/\ks.Perm (kl ss))/\Below w.heap.size w w':=by
 have k1:=zh (Rm Bm b nn D0 w ag hm ae hs);clear hm ae;go_enter func66,ntmps66
 go_wp2_with fail
 refine k1.o.mono ?_;rintro e w2 ⟨A,c,ss,rfl,h1,h2,h3⟩;clear k1
 by_cases h0:ss.length=0
 .obtain rfl:ss=[]:=List.eq_nil_of_length_eq_zero h0;have k2:=zh (fun f=>AnyF.slices_SortFunc_none Tryz.sortK A c f w2);clear h0 h2;simp only[yR]
  go_wp2_with fail
  refine(k2.o _).mono ?_;rintro e w3 ⟨rfl,rfl⟩;clear k2;go_wp2;go_ret;exact⟨⟨A,c,[],[],rfl,fun h=>absurd h (wB 0),h1,List.Pairwise.nil,List.Perm.nil⟩,h3⟩
 obtain ⟨g,cap,hA,ai,ad⟩:∃g cap,A=some ⟨g,0,none⟩/\w.heap.size<=g/\g<w2.heap.size:=by
  rcases h2.2 with⟨_,q⟩|⟨g,cap,cur,e,hb,hg,_⟩
  .exact absurd q h0
  injection e with e1 e2 e3;exact⟨g,cap,e1,hb,(Array.getElem?_eq_some_iff.1 hg).1⟩
 subst hA;have hl:(kl ss).length=ss.length:=zW _;have aa:(kl ss).toArray.size=ss.length:=by rw[yq,hl]
 have hH:=Rk (l:=kl ss) (by rw[hl];exact h2);have k2:=zh (U0 g 0 c (kl ss).toArray w2 hH ad (by have:=h1.2;rw[aa];omega));rw[aa]at k2;clear h0 h2;replace hH:=zh hH;replace h1:=zh h1
 go_wp2_with fail
 refine k2.o.mono ?_;rintro e w3 ⟨rfl,d',n,os,h4,h5,rfl⟩;clear k2;have ak:d'.size=ss.length:=by have:=h4.1;rw[aa]at this;exact this
 have hg:=MA w2 g 0 n d' os;have af:=holdsK_sortWorldK Cb 2 w2 g 0 n (kl ss).toArray d' os ad hH.o h4.1;have aj:=lt_sortWorldK Cb 2 w2 g 0 n d' os ad;have ah:Hid (Below w.heap.size w (sortWorldK Cb 2 w2 g 0 n d' os)):=h3.grown hg h3.size fun k e=>by cases e;exact ai
 clear hg ad;generalize sortWorldK Cb 2 w2 g 0 n d' os=w3 at *;have hS:=zh (Ll (d:=(kl ss).toArray) (by rw[aa];exact h4) (by rw[aa];exact h5) (U8 h1.o.1.1));have hI:=zh (Wf af aj);have hd:ss.length=d'.toList.length:=by have:=h4.1;rw[aa]at this;rw[Array.length_toList];exact this.symm
 rw[hd];clear hH af h4 h5 h3;go_wp2;go_ret;exact⟨⟨_,c,d'.toList,ss,rfl,hI.o,h1.o,hS.o.1,hS.o.2⟩,ah.o⟩
theorem XE{t:Int}(h:0<=t):ofQ t 6000=Co.uq t.toNat:=by
 unfold ofQ Co.uq;have e:(!(decide (t<0)==decide ((6000:Int)<0)))=false:=by rw[zH (by omega:¬t<0)];rfl
 rw[e]
 show mkRat (t.natAbs:Int) 6000=mkRat (t.toNat:Int) 6000
 congr 1
 omega
theorem Rn{t:Int}(h:0<=t/\t<=6000000000):(rqR (ofQ t 6000)).2.1.size<=140737488355328/\(rqR (ofQ t 6000)).2.2.size<=140737488355328:=by
 rw[XE h.1];have:=Br (Co.EX (u:=t.toNat) (by omega));unfold rqR;simp only;omega
theorem Ks(ps:List ByteArray)(D:List Ct)(mb:Nat)(w:World)(hE:Env w)(hM:LkM w mb ps D)(hD:Mod D)(aS:D.length<=1000000)(hp:ps.length<=1000000):
 Calls prog 30 #[.map (some mb)] w fun e w'=>(∃A c l,e=.returned (.slice A (List.length l) c)/\IsLinks ps D l/\InLk w' A l/\l.length<=D.length/\∀b off,A=some ⟨b,off,none⟩->w.heap.size<=b)/\Below w.heap.size w w':=by
 obtain⟨mc,ak,aT⟩:=hM;obtain⟨D0,am,aU,aG⟩:=id ak;have an:Hid (Below w.heap.size w (w.alloc (.cells #[.map (some mb)] 64))):=(zI _ w).alloc (zB _) _;have ai:=am.alloc (.cells #[.map (some mb)] 64);have aq:Hid (Bk (w.alloc (.cells #[.map (some mb)] 64)) w.heap.size 64 [.map (some mb)]):=Bk.new w _ _;have k1:=zh (Rj (some mb) w);have k2:=zh (MB w.heap.size mb mc D0 _ aq.o.lt (aq.o.c0) ai (by omega))
 have ag:Hid (∀(ks:List (Int×Int)) (ss:List Kk),XD D0 ss->ks.Pairwise KLt->ks.Perm (kl ss)->IsLinks ps D (ks.map (F7 ps D))/\ks.length<=D.length/\∀x∈ks,∃h:H9 x.1/\H9 x.2,(EE ps D ⟨x,h⟩).getD (.int .i64 0)=.int .i64 (tot D (nm ps x.1,nm ps x.2))):=fun ks ss h1 h2 h3=>by
  have h4:∀x,x∈ks->H9 x.1/\H9 x.2:=fun x hx=>by
   obtain⟨y,_,rfl⟩:=List.mem_map.1 (h3.mem_iff.1 hx);exact y.2
  have h5:∀x:Kk,x.1∈ks<->Lf ps D x.1:=fun x=>by
   rw[h3.mem_iff];have:x.1∈kl ss<->x∈ss:=⟨fun h=>by obtain⟨y,hy,e⟩:=List.mem_map.1 h;rwa [<-Subtype.ext e],fun h=>wj h⟩;rw[this,h1.1.2 x,(aG x).1];unfold EE
   by_cases q:Lf ps D x.1
   .rw[zF q];exact⟨fun _=>q,fun _=>rfl⟩
   rw[zE q];exact⟨fun h=>absurd h (by simp),fun h=>absurd h q⟩
  refine⟨U5 hp h2 h4 h5,?_,fun x hx=>⟨h4 x hx,Ko D _ ?_⟩⟩
  .rw[h3.length_eq];have:=h1.2;rw[show (kl ss).length=ss.length from zW _];omega
  have q:=(h5 ⟨x,h4 x hx⟩).1 hx;exact⟨q.1,q.2.1,q.2.2.1,q.2.2.2.1⟩
 clear am aG ai;replace ak:=zh ak;replace hE:=zh hE;replace hD:=zh hD;obtain⟨i0,au,ax,ay,az⟩:=vX Wz;replace au:=zh au;replace ax:=zh ax;replace ay:=zh ay;replace az:=zh az;go_enter func30,ntmps30
 go_wp2_with fail
 refine k1.o.mono ?_;rintro e w1 ⟨rfl,rfl⟩
 go_wp2_with fail
 refine k2.o.mono ?_;rintro e w2 ⟨⟨A,c,ks,ss,rfl,hI,h1,h2,h3⟩,aH⟩;have ad:Hid (Below w.heap.size w w2):=an.o.trans (aH.mono an.o.size);obtain⟨hL,aR,af⟩:=ag.o ks ss h1 h2 h3;clear k1 k2 ag aq an aH h1 h2 h3 ss;replace hI:=zh hI;replace hL:=zh hL;replace af:=zh af;have aL:Hid (MapK prog 69 κk w2 mb mc (EE ps D)):=ak.o.below ad.o;have aE:Hid (w2.ownsRow w2.heap.size 106 5 (.slice none 0 0) 0 (EH ((ks.take 0).map (F7 ps D)))):=yf _ _ _ _;have aD:Hid (Below w2.heap.size w2 w2):=zI _ _;go_wp2
 go_loopw [14,4] (fun i o wr=>∃(k:Nat)(A2:Option Addr)(c2:Nat),k<=ks.length/\i=.int .i64 (k:Int)/\o=.slice A2 k c2/\Hid (wr.ownsRow w2.heap.size 106 5 (.slice A2 k c2) k (EH ((ks.take k).map (F7 ps D))))/\Hid (Below w2.heap.size w2 wr)) (fun i _ _=>ks.length-(intOf i).toNat)
 case atStart=>exact⟨0,none,0,zS _,rfl,rfl,aE,aD⟩
 case round=>
  obtain⟨k,A2,c2,hk,rfl,rfl,hO,hB⟩:=hrel;clear aE aD;obtain⟨wz,rfl⟩:∃z,z=wr:=⟨_,rfl⟩
  by_cases hlt:k<ks.length
  .obtain ⟨b,off,rfl,aI,aP⟩:=hI.o (by omega);obtain⟨e0,e1⟩:=aP k hlt;obtain⟨aA,aa⟩:=af.o ks[k] (zO hlt);have al:(ks.take (k+1)).map (F7 ps D)=(ks.take k).map (F7 ps D)++[F7 ps D ks[k]]:=by rw[zP hlt,yD];rfl
   have k0:(0:Int)<=(k:Int):=by omega
   have k1:(k:Int)<(ks.length:Int):=by omega
   generalize ks[k]=x at e0 e1 aA aa al;replace e0:=(hB.o.cell (p:=⟨b,_,none⟩) aI).trans e0;replace e1:=(hB.o.cell (p:=⟨b,_,none⟩) aI).trans e1;obtain⟨x1,x2⟩:=x;simp only at e0 e1;obtain⟨t,ht⟩:∃t,t=tot D (nm ps x1,nm ps x2):=⟨_,rfl⟩
   have aV:0<=t/\t<=6000000000:=by
    have:=O2 hD.o (nm ps x1,nm ps x2);rw[<-ht]at this;omega
   simp only at aa;rw[<-ht]at aa;obtain⟨g,n,d,hq,av⟩:∃g n d,qv (ofQ t 6000)=.agg #[.bool g,.string n,.string d]/\F7 ps D (x1,x2)=(x1,x2,g,n,d):=⟨_,_,_,rfl,by rw[ht];rfl⟩;have aB:Hid (Below w.heap.size w wz):=ad.o.trans (hB.o.mono ad.o.size);have aj:Hid (Bk (wz.alloc (.cells #[.int .i64 x1,.int .i64 x2] 69)) wz.heap.size 69 [.int .i64 x1,.int .i64 x2]):=Bk.new _ _ _;have aC:Hid (Below w2.heap.size w2 (wz.alloc (.cells #[.int .i64 x1,.int .i64 x2] 69))):=hB.o.alloc hB.o.size _;have aM:Hid ((wz.alloc (.cells #[.int .i64 x1,.int .i64 x2] 69)).ownsRow w2.heap.size 106 5 (.slice A2 k c2) k (EH ((ks.take k).map (F7 ps D)))):=hO.o.alloc _;have ah:=((aL.o.below hB.o).alloc (.cells #[.int .i64 x1,.int .i64 x2] 69)).look FW underlying64 (Iv _) (M7 ⟨(x1,x2),aA⟩);rw[aa]at ah;have kr:=zh (Fm t 6000 (by omega) (by omega) (by omega) (by omega) (by omega) (wz.alloc (.cells #[.int .i64 x1,.int .i64 x2] 69)) (hE.o.below (aB.o.alloc aB.o.size _)));rw[hq]at kr;have y0:=aj.o.c0;have y1:=aj.o.c1;have y9:=aj.o.lt;replace ht:=zh ht;replace al:=zh al;replace av:=zh av;replace hq:=zh hq;clear aa
   go_wp2_with fail
   refine kr.o.q fun w4 ar=>?_;clear y0 y1 y9 e0 e1 ah kr;have ae:=zh (aj.o.below ar);have ao:Hid (Below w2.heap.size w2 w4):=aC.o.trans (ar.mono aC.o.size);have aN:Hid (w4.ownsRow w2.heap.size 106 5 (.slice A2 k c2) k (EH ((ks.take k).map (F7 ps D)))):=AC aM.o ar;have z0:=ae.o.c0;have z1:=ae.o.c1;have z9:=ae.o.lt
   have had:Hid (∀j u,(lkL (x1,x2,g,n,d))[j]? = some u->((w4.alloc (.cells #[.bool g,.string n,.string d] 48)).alloc (.cells #[.int .i64 x1,.int .i64 x2,.bool g,.string n,.string d] 106)).cell? (Addr.add ⟨w4.heap.size+1,0,none⟩ j)=some u):=by
    have h:=KW (w4.alloc (.cells #[.bool g,.string n,.string d] 48)) (x1,x2,g,n,d) 106;simp only[zV]at h;exact h
   have aF:Hid (((w4.alloc (.cells #[.bool g,.string n,.string d] 48)).alloc (.cells #[.int .i64 x1,.int .i64 x2,.bool g,.string n,.string d] 106)).ownsRow w2.heap.size 106 5 (.slice A2 k c2) k (EH ((ks.take k).map (F7 ps D)))):=(aN.o.alloc _).alloc _;have ap:Hid (Below w2.heap.size w2 ((w4.alloc (.cells #[.bool g,.string n,.string d] 48)).alloc (.cells #[.int .i64 x1,.int .i64 x2,.bool g,.string n,.string d] 106))):=(ao.o.alloc ao.o.size _).alloc (by have:=ao.o.size;simp;omega) _
   have aw:Hid (∀v' w',w'.ownsRow w2.heap.size 106 5 v' (k+1) (EH ((ks.take k).map (F7 ps D))++lkL (x1,x2,g,n,d))->((w4.alloc (.cells #[.bool g,.string n,.string d] 48)).alloc (.cells #[.int .i64 x1,.int .i64 x2,.bool g,.string n,.string d] 106)).grownBy w' (Value.slice A2 k c2).ownBlock ->
    w'.ownsRow w2.heap.size 106 5 v' (k+1) (EH ((ks.take (k+1)).map (F7 ps D)))/\Below w2.heap.size w2 w'):=fun v' w' h1 h2=>
    ⟨by rw[al.o,av.o,Ki];exact h1,ap.o.grown h2 ap.o.size fun b e=>(aF.o.lt b e).1⟩
   have aO:Hid (w2.heap.size<=((w4.alloc (.cells #[.bool g,.string n,.string d] 48)).alloc (.cells #[.int .i64 x1,.int .i64 x2,.bool g,.string n,.string d] 106)).heap.size):=ap.o.size
   go_wp2_with (at_builtin;refine Ci.wpList_append_new _ rfl _ _ 30 rfl w2.heap.size 106 i0 Ua 5 56 underlying30 au.o ax.o ay.o az.o rfl (by decide) (.slice A2 k c2) k _ rfl aF.o ⟨w4.heap.size+1,0,none⟩ 1 1 (lkL (x1,x2,g,n,d)) rfl rfl had.o (Ov _) (by decide) (by unfold maxLen;omega) (by omega) aO.o ?_;intro vb wb ho hg hn;obtain⟨q1,q2⟩:=aw.o vb wb ho hg;obtain⟨A9,c9,rfl⟩:=QT q1;replace q1:=zh q1;replace q2:=zh q2;clear ho hg hn)
   exact⟨⟨k+1,A9,c9,by omega,by go_num,by go_num,q1,q2⟩,by simp only[intOf];omega⟩
  obtain rfl:k=ks.length:=by omega
  rw[zu]at hO;have aJ:(ks.map (F7 ps D)).length=ks.length:=zW _
  have hQ:Hid (∃A c l,(.slice A2 ks.length c2:Value)=.slice A (List.length l) c/\IsLinks ps D l/\InLk wz A l/\l.length<=D.length/\∀b off,A=some ⟨b,off,none⟩->w.heap.size<=b):=by
   obtain⟨A,cp,e,aQ⟩:=Po (l:=ks.map (F7 ps D)) (by rw[aJ];exact hO.o);refine⟨A,cp,_,e,hL.o,aQ,by rw[aJ];exact aR,fun b off q=>?_⟩;have:=(hO.o.lt b (by rw[e,q];rfl)).1;have:=ad.o.size;omega
  have aK:Hid (Below w.heap.size w wz):=ad.o.trans (hB.o.mono ad.o.size);go_wp2;go_ret;obtain⟨A,cp,l,e,q⟩:=hQ.o;exact⟨⟨A,cp,l,congrArg Ending.returned e,q⟩,aK.o⟩
end Rg
end
section
open Go.RowKit Go.Shelf
namespace Rg
open Nt Ci
theorem Ro{s:ByteArray}(h:An s=true):s.size≠0:=by
 unfold An at h;simp only[zr,yC]at h;omega
theorem MC{h:Hd}(hp:Proper h){x:ByteArray}(hx:x∈Cv h):x∈nms h:=by
 unfold Cv at hx;unfold nms
 split at hx
 .rcases List.mem_cons.1 hx with rfl|hx
  .simp
  obtain⟨k,hk,rfl⟩:=zi hx;have:h.jo[k]∈h.jo.flatMap opt:=List.mem_flatMap.2 ⟨_,zO hk,by unfold opt;rw[zE (Ro (hp.2.1 k hk).1)];exact List.mem_singleton.2 rfl⟩;simp[this]
 rename_i c;rw[List.mem_singleton.1 hx];simp[opt,c]
theorem U9{h:Hd}(hp:Proper h){x:ByteArray}(hx:x∈E8 h):x∈nms h:=by
 unfold E8 at hx
 split at hx
 .exact MC hp hx
 rename_i c;rw[List.mem_singleton.1 hx];simp[nms,opt,c]
theorem Rp{l:List Hd}{ps:List ByteArray}(h:IsParts l ps){x:Hd}(hx:x∈l){y:ByteArray}(hy:y∈nms x):y∈ps:=(h.2 y).2 (List.mem_flatMap.2 ⟨x,hx,hy⟩)
theorem IZ{h:Hd}(hp:Proper h):(Cv h).length<=5:=by
 have:=hp.1.2.2.2.2.2.1;unfold Cv
 split<;>simp;omega
theorem MD{h:Hd}(hp:Proper h):(E8 h).length<=5:=by
 unfold E8
 split
 .exact IZ hp
 simp
theorem ME(who:List ByteArray)(co:ByteArray)(p:Int):(Lb who co p).length<=who.length:=by
 unfold Lb;rw[zW];exact zy _ _
theorem MF{who:List ByteArray}{co:ByteArray}{p:Int}(hp:CV p):Mod (Lb who co p):=fun x hx=>by
 unfold Lb at hx;obtain⟨y,_,rfl⟩:=List.mem_map.1 hx;unfold CV at hp
 show 0<=p*60/(who.length:Int)/\p*60/(who.length:Int)<=6000
 exact⟨Int.ediv_nonneg (by omega) (by omega),Int.le_trans (Int.ediv_le_self _ (by omega)) (by omega)⟩
theorem Px:Mod []:=fun _ h=>by cases h
theorem UA{h:Hd}(hp:Proper h)(day:Int):Mod (addC day h):=by
 unfold addC
 split
 .exact MF hp.2.2.2.2.1
 exact Px
theorem UB{h:Hd}(hp:Proper h)(day:Int):Mod (addV day h):=by
 unfold addV
 split
 .exact MF hp.2.2.2.2.2.1
 exact Px
theorem MG{h:Hd}(hp:Proper h)(day:Int):(addC day h).length<=5:=by
 unfold addC
 split
 .exact zQ (ME _ _ _) (IZ hp)
 simp
theorem MH{h:Hd}(hp:Proper h)(day:Int):(addV day h).length<=5:=by
 unfold addV
 split
 .exact zQ (ME _ _ _) (MD hp)
 simp
theorem MI{l:List Hd}{f:Hd->List Ct}(h:∀x∈l,Mod (f x)):Mod (l.flatMap f):=fun y hy=>by
 obtain⟨x,hx,hy⟩:=List.mem_flatMap.1 hy;exact h x hx y hy
theorem Ie{l:List Hd}{f:Hd->List Ct}(h:∀x∈l,(f x).length<=5):(l.flatMap f).length<=5*l.length:=by
 induction l with
 |nil=>exact zB _
 |cons x l ih=>
  have h1:=h x zf;have h2:=ih fun y hy=>h y (zY _ hy);rw[List.flatMap_cons,zX,zZ];omega
theorem Fv{l:List Hd}(f:Hd->List Ct){k:Nat}(h:k<l.length):(l.take (k+1)).flatMap f=(l.take k).flatMap f++f l[k]:=by
 rw[zP h,List.flatMap_append,List.flatMap_singleton]
theorem AtS.unique{l:List Hd}{day:Int}{s t:SR}(hs:AtS l day s)(ht:AtS l day t):s=t:=by
 obtain⟨ps,c,v⟩:=s;obtain⟨qs,d,u⟩:=t;obtain⟨a1,a2,a3⟩:=hs;obtain⟨b1,b2,b3⟩:=ht;have e:ps=qs:=a1.unique b1 fun _=>wH;subst e;have e2:c=d:=a2.unique b2 (fun _=>wH) fun _=>rfl;have e3:v=u:=a3.unique b3 (fun _=>wH) fun _=>rfl;rw[e2,e3]
theorem Lm{l:List Hd}(h:Valid l){x:Hd}(hx:x∈l):Proper x:=by
 obtain⟨k,hk,rfl⟩:=zi hx;exact(h.1 k hk).1
theorem XF{W:World}{b:Nat}{l:List ByteArray}(h:Bk W b 9 (l.map .string)):InStr W (some ⟨b,0,none⟩) l:=fun _=>⟨b,0,rfl,h.lt,fun j hj=>by
 rw[yS];exact h.cell (by simp[hj])⟩
theorem InLk.same{W W':World}{A:Option Addr}{l:List Lk}(h:InLk W A l)(hs:W.heap.size<=W'.heap.size)(he:∀b off,A=some ⟨b,off,none⟩->b<W.heap.size->W'.heap[b]? = W.heap[b]?):InLk W' A l:=fun h0=>by
 obtain⟨b,off,e,hb,hc⟩:=h h0;have f:=fun j=>zU (w:=W) (w':=W') (a:=⟨b,j,none⟩) (he b off e hb);refine⟨b,off,e,zJ hb hs,fun j hj=>?_⟩;obtain⟨q0,q1,q2,q3,q4⟩:=hc j hj;exact⟨(f _).trans q0,(f _).trans q1,(f _).trans q2,(f _).trans q3,(f _).trans q4⟩
theorem InStr.same{W W':World}{A:Option Addr}{l:List ByteArray}(h:InStr W A l)(hs:W.heap.size<=W'.heap.size)(he:0<l.length->∀b off,A=some ⟨b,off,none⟩->b<W.heap.size->W'.heap[b]? = W.heap[b]?):InStr W' A l:=fun h0=>by
 obtain⟨b,off,e,hb,hc⟩:=h h0;exact⟨b,off,e,zJ hb hs,fun j hj=>(zU (w:=W) (w':=W') (a:=⟨b,_,none⟩) (he h0 b off e hb)).trans (hc j hj)⟩
theorem InInt.same{W W':World}{A:Option Addr}{l:List Int}(h:InInt W A l)(hs:W.heap.size<=W'.heap.size)(he:∀b off,A=some ⟨b,off,none⟩->b<W.heap.size->W'.heap[b]? = W.heap[b]?):InInt W' A l:=fun h0=>by
 obtain⟨b,off,e,hb,hc⟩:=h h0;exact⟨b,off,e,zJ hb hs,fun j hj=>(zU (w:=W) (w':=W') (a:=⟨b,_,none⟩) (he b off e hb)).trans (hc j hj)⟩
theorem StIn.kp{W W':World}{s:SR}{Ap Ac Av:Option Addr}{x n:Nat}(h:StIn W s Ap Ac Av)(hk:Kp [x] W W')(hx:x<n)(fp:Fr n Ap)(fc:Fr n Ac)(fv:Fr n Av):StIn W' s Ap Ac Av :=
 have q:∀b,n<=b->b<W.heap.size->W'.heap[b]? = W.heap[b]?:=fun b h1 h2=>hk.block b h2 (by simp;omega)
 ⟨InStr.same h.ps hk.size fun _ b off e=>q b (fp b off e),InLk.same h.cap hk.size fun b off e=>q b (fc b off e),InLk.same h.vot hk.size fun b off e=>q b (fv b off e),h.np,h.nc,h.nv,h.zp,h.zc,h.zv,h.ic,h.iv⟩
theorem IsLinks.sz{ps:List ByteArray}{D:List Ct}{l:List Lk}(h:IsLinks ps D l)(hD:Mod D)(hl:D.length<=1000000)(hp:ps.length<=1000000){x:Lk}(hx:x∈l):
 (x.2.2.2.1.size<=140737488355328/\x.2.2.2.2.size<=140737488355328)/\(-9223372036854775808<=x.1/\x.1<=9223372036854775807)/\(-9223372036854775808<=x.2.1/\x.2.1<=9223372036854775807):=by
 obtain⟨i,j,hi,hj,e1,e2,_,e4⟩:=h.2.1 x hx;have ht:=O2 hD (ps[i],ps[j]);have hs:=Rn (t:=tot D (ps[i],ps[j])) (by omega);rw[<-e4]at hs;exact⟨hs,by omega,by omega⟩
theorem XG{h:Hd}(hz:HdSz h){x:ByteArray}(hx:x∈nms h):x.size<=140737488355328:=by
 obtain⟨z0,z1,z2,z3,z4,z5,z6,_⟩:=hz;unfold nms at hx
 have ho:∀{s:ByteArray},x∈opt s->x=s:=fun {s} h=>by
  unfold opt at h
  split at h
  .cases h
  exact List.mem_singleton.1 h
 rcases List.mem_cons.1 hx with rfl|hx
 .exact z1
 rcases List.mem_cons.1 hx with rfl|hx
 .exact z2
 rcases List.mem_append.1 hx with hx|hx
 .rcases List.mem_append.1 hx with hx|hx
  .rw[ho hx];exact z3
  rw[ho hx];exact z4
 obtain⟨y,hy,hx⟩:=List.mem_flatMap.1 hx;rw[ho hx];exact z6 y hy
structure AtI(w0:World)(ps:List ByteArray)(A:Option Addr)(c sb:Nat)(DC DV:List Ct)(W:World):Prop where
 pl:PlIn W ps A c sb (sb+3)
 mc:LkM W (sb+1) ps DC
 mv:LkM W (sb+2) ps DV
 x:Bk W sb 32 [.slice A ps.length c,.slice none 0 0,.slice none 0 0]
 r:Bk W w0.heap.size 32 [.slice none 0 0,.slice none 0 0,.slice none 0 0]
 b:Below w0.heap.size w0 W
 a:0<ps.length->∀b off,A=some ⟨b,off,none⟩->b<sb/\b≠w0.heap.size
 s:w0.heap.size<sb
theorem LkM.below{W W':World}{b:Nat}{ps:List ByteArray}{D:List Ct}(h:LkM W b ps D)(hb:Below W.heap.size W W'):LkM W' b ps D:=by
 obtain⟨c,h1,h2⟩:=h;exact⟨c,h1.below hb,h2⟩
theorem LkM.kept{W W':World}{b:Nat}{ps:List ByteArray}{D:List Ct}{row:Option Nat}(h:LkM W b ps D)(hg:W.grownBy W' row)(d:some b≠row):LkM W' b ps D:=by
 obtain⟨c,h1,h2⟩:=h;exact⟨c,h1.kept hg d,h2⟩
theorem LkM.lt{W:World}{b:Nat}{ps:List ByteArray}{D:List Ct}(h:LkM W b ps D):b<W.heap.size:=by
 obtain⟨c,h1,_⟩:=h;exact h1.lt
section
variable {w0:World} {ps:List ByteArray} {A:Option Addr} {c sb:Nat} {DC DV:List Ct} {W W':World}
theorem AtI.below(h:AtI w0 ps A c sb DC DV W)(hb:Below W.heap.size W W'):AtI w0 ps A c sb DC DV W' :=
 ⟨h.pl.below hb,h.mc.below hb,h.mv.below hb,h.x.below hb,h.r.below hb,h.b.trans (hb.mono h.b.size),h.a,h.s⟩
theorem AtI.cap{DC':List Ct}(h:AtI w0 ps A c sb DC DV W)(h0:0<ps.length)(hg:W.grownBy W' (some (sb+1)))(hm:LkM W' (sb+1) ps DC'):AtI w0 ps A c sb DC' DV W' :=
 ⟨h.pl.grown hg (fun e=>by injection e with e;omega) (fun e=>by injection e with e;omega) (fun b off e q=>by injection q with q;have:=(h.a h0 b off e).1;omega),
  hm,h.mv.kept hg (fun e=>by injection e with e;omega),h.x.grown hg (by intro e;injection e with e;omega),h.r.grown hg (by have:=h.s;intro e;injection e with e;omega),h.b.grown hg h.b.size (fun k e=>by cases e;have:=h.s;omega),h.a,h.s⟩
theorem AtI.vot{DV':List Ct}(h:AtI w0 ps A c sb DC DV W)(h0:0<ps.length)(hg:W.grownBy W' (some (sb+2)))(hm:LkM W' (sb+2) ps DV'):AtI w0 ps A c sb DC DV' W' :=
 ⟨h.pl.grown hg (fun e=>by injection e with e;omega) (fun e=>by injection e with e;omega) (fun b off e q=>by injection q with q;have:=(h.a h0 b off e).1;omega),
  h.mc.kept hg (fun e=>by injection e with e;omega),hm,h.x.grown hg (by intro e;injection e with e;omega),h.r.grown hg (by have:=h.s;intro e;injection e with e;omega),h.b.grown hg h.b.size (fun k e=>by cases e;have:=h.s;omega),h.a,h.s⟩
end
theorem AtI.start{w0 W:World}{ps:List ByteArray}{A:Option Addr}{c:Nat}(hb:Below w0.heap.size w0 W)(hr:Bk W w0.heap.size 32 [.slice none 0 0,.slice none 0 0,.slice none 0 0])(hS:InStr W A ps)(hp:ps.Pairwise ltB)(hl:ps.length<=1000000):
 AtI w0 ps A c W.heap.size [] [] ((((W.alloc (.cells #[.slice A ps.length c,.slice none 0 0,.slice none 0 0] 32)).alloc (.map #[] 0)).alloc (.map #[] 0)).alloc (.cells #[.func (.func 26) #[] #[.pointer (some ⟨W.heap.size,0,none⟩)]] 67)):=by
 have hx:=Bk.new W 32 [.slice A ps.length c,.slice none 0 0,.slice none 0 0];have h:=(zI W.heap.size W).alloc (zB _) (.cells #[.slice A ps.length c,.slice none 0 0,.slice none 0 0] 32);obtain⟨W1,ad⟩:∃q,W.alloc (.cells #[.slice A ps.length c,.slice none 0 0,.slice none 0 0] 32)=q:=⟨_,rfl⟩;have an:W1.heap.size=W.heap.size+1:=by rw[<-ad];simp
 have ap:Bk W1 W.heap.size 32 [.slice A ps.length c,.slice none 0 0,.slice none 0 0]:=by rw[<-ad];exact hx
 rw[ad]at h ⊢;clear hx ad;have af:=MapK.made W1 prog 69 κk;have aa:=h.alloc h.size (.map #[] 0);obtain⟨W2,ae⟩:∃q,W1.alloc (.map #[] 0)=q:=⟨_,rfl⟩;have ao:W2.heap.size=W.heap.size+2:=by rw[<-ae];simp[an]
 have aq:Bk W2 W.heap.size 32 [.slice A ps.length c,.slice none 0 0,.slice none 0 0]:=by rw[<-ae];exact ap.alloc _
 rw[ae]at aa af ⊢;rw[an]at af;clear ap ae h;have ai:=MapK.made W2 prog 69 κk;have ag:=aa.alloc aa.size (.map #[] 0);obtain⟨W3,d⟩:∃q,W2.alloc (.map #[] 0)=q:=⟨_,rfl⟩;have aw:W3.heap.size=W.heap.size+3:=by rw[<-d];simp[ao]
 have ax:Bk W3 W.heap.size 32 [.slice A ps.length c,.slice none 0 0,.slice none 0 0]:=by rw[<-d];exact aq.alloc _
 have ak:MapK prog 69 κk W3 (W.heap.size+1) 0 fun _=>none:=by rw[<-d];exact af.alloc _
 rw[d]at ag ai ⊢;rw[ao]at ai;clear aq d aa af;have ho:=Bk.new W3 67 [.func (.func 26) #[] #[.pointer (some ⟨W.heap.size,0,none⟩)]];have ah:=ag.alloc ag.size (.cells #[.func (.func 26) #[] #[.pointer (some ⟨W.heap.size,0,none⟩)]] 67);have aj:=ax.alloc (.cells #[.func (.func 26) #[] #[.pointer (some ⟨W.heap.size,0,none⟩)]] 67);have al:=ak.alloc (.cells #[.func (.func 26) #[] #[.pointer (some ⟨W.heap.size,0,none⟩)]] 67);have am:=ai.alloc (.cells #[.func (.func 26) #[] #[.pointer (some ⟨W.heap.size,0,none⟩)]] 67);rw[aw]at ho
 have hn:∀x,(fun _:Kk=>(none:Option Value)) x=EE ps [] x:=fun x=>by
  unfold EE;rw[zE];rintro⟨_,_,_,_,v,hv⟩
  cases hv
 have av:=hr.lt;refine⟨⟨hS.below ah,hp,hl,aj.c0,aj.lt,ho.c0,ho.lt⟩,⟨0,al.congr hn,zS _⟩,⟨0,am.congr hn,zS _⟩,aj,hr.below ah,hb.trans (ah.mono hb.size),fun h0 b off e=>?_,av⟩;obtain⟨b2,off2,e2,ar,au⟩:=hS h0;rw[e]at e2;injection e2 with e2;injection e2 with e2 e3;subst e2;refine⟨ar,fun e4=>?_⟩;have h1:=au 0 h0;subst e4
 have h2:∀j u,W.cell? ⟨w0.heap.size,j,none⟩=some u->u=.slice none 0 0:=fun j u hu=>by
  simp only[World.cell?,show W.heap[w0.heap.size]? = _ from hr]at hu
  match j,hu with
  |0,hu=>simpa using hu.symm
  |1,hu=>simpa using hu.symm
  |2,hu=>simpa using hu.symm
  |j+3,hu=>simp at hu
 cases h2 _ _ h1
end Rg
end
end Go.Proofs.YtefmpngjjmddjaaGreatDoor

/- Texts that the proof needs: BndFew, BndLawP, BndWrap, BndExP, LawSWithout, BndJoinP, BndJoinM, BndJoinS, NatBytes, RefA, RRef1, BndRFit. -/
import Derived.Test.YtmfjbpcecpgchaaGreatDoorKeG
set_option maxHeartbeats 16000000
set_option maxRecDepth 1000000
namespace Go.Proofs.YtmfjbpcecpgchaaGreatDoor
theorem tkeH{P:Program}{md:Region.Mode}{ops:Array Oper}{Q:Exit->Act->World->Prop}{S:World->Prop}{oi:Oper}{v:Value}{fuel:Nat}{listed:Array Bool}{a:Act}{w:World}(i:Nat)(hi:ops[i]?=some oi)(hS:S w)(hy:YieldsIf P ops S oi v a)(h:wpAnyH P md ops Q S fuel (listed.setIfInBounds i true) (a.put oi.dst v) w)(hs:Region.noSelect ops=true:=by kernel_rfl)(hf:Region.free md ops listed i=true:=by kernel_rfl)(hr:(Region.ready md ops listed).contains i=true:=by kernel_rfl)(hQ:∀c a w,Q (.panic c) (a.put oi.dst v) w->Q (.panic c) a w:=by exact fun _ _ _ h=>h):wpAnyH P md ops Q S (fuel+1) listed a w:=vR hi hs hf hr hQ hy hS h
section
open Go.RowKit Go.Shelf
namespace Bd
open Nt Ci Sh
def BPost(p:Bool->Prop)(w:World)(e:Ending)(w':World):Prop:=(∃r,e=.returned (.bool r)/\p r)/\Below w.heap.size w w'
theorem BPost.mkB{p:Bool->Prop}{w:World}{e:Ending}{w':World}{r:Bool}(h1:e=.returned (.bool r))(h2:p r)(h3:Below w.heap.size w w'):BPost p w e w':=⟨⟨r,h1,h2⟩,h3⟩
def Kv(V:List Raw)(R:List Int):Prop:=V.length<=70/\R.length<=70/\∀k (h:k<V.length),V[k].2.1.size<=400/\V[k].2.2.size<=400
theorem LB(ab:Bool)(Aw Ar:Option Addr)(cw cr:Nat)(V:List Raw)(R:List Int)(w:World)(hV:InRow w Aw V)(ai:V.length<=140737488355328)(ah:R.length<=140737488355328)
 (ad:∀k (h:k<V.length),V[k].2.1.size<=140737488355328/\V[k].2.2.size<=140737488355328):
 Calls Tryz.prog 7 #[.agg #[.bool ab,.slice Aw V.length cw,.slice Ar R.length cr]] w (BPost (fun r=>r=true->Kv V R) w):=by
 obtain⟨W,hW⟩:∃X,X=w.alloc (.cells #[.bool ab,.slice Aw V.length cw,.slice Ar R.length cr] 29):=⟨_,rfl⟩;have ae:Below w.heap.size w W:=by rw[hW];exact(zI _ w).alloc (zA _) _
 have hX:Bk W w.heap.size 29 [.bool ab,.slice Aw V.length cw,.slice Ar R.length cr]:=by rw[hW];exact Bk.new _ _ _
 have d:=zh ae;have x1:=hX.c1;have x2:=hX.c2;have x9:=hX.lt;have hI:=zh (hV.below ae (zA _));replace ad:=zh ad;clear ae hX hV;go_enter Tryz.func7,Tryz.ntmps7
 by_cases h1:70<V.length
 .have m1:decide ((70:Int)<(V.length:Int))=true:=zH (by omega);have m2:decide (70<V.length)=true:=zH (by omega);replace h1:=zh h1;rw[hW]at x1 x2 x9;go_wp2;rw[<-hW];go_ret;exact BPost.mkB (r:=false) rfl (fun h=>by cases h) d.o
 have m1:decide ((70:Int)<(V.length:Int))=false:=zD (by omega);have m2:decide (70<V.length)=false:=zD (by omega)
 by_cases h2:70<R.length
 .have m3:decide ((70:Int)<(R.length:Int))=true:=zH (by omega);have m4:decide (70<R.length)=true:=zH (by omega);replace h2:=zh h2;replace h1:=zh h1;rw[hW]at x1 x2 x9;go_wp2;rw[<-hW];go_ret;exact BPost.mkB (r:=false) rfl (fun h=>by cases h) d.o
 have m3:decide ((70:Int)<(R.length:Int))=false:=zD (by omega);have m4:decide (70<R.length)=false:=zD (by omega);replace h2:=zh h2;replace h1:=zh h1;rw[hW]at x1 x2 x9;go_wp2;rw[<-hW]at x1 x2 x9;rw[<-hW];replace hW:=zh hW;clear m1 m2 m3 m4
 go_loopw [3] (fun ix wr=>∃(k:Nat),k<=V.length/\ix=.int .i64 (k:Int)/\wr=W/\Hid (∀i (_:i<k) (h:i<V.length),V[i].2.1.size<=400/\V[i].2.2.size<=400)) (fun ix _=>V.length-(intOf ix).toNat)
 case atStart=>exact⟨0,zP _,rfl,rfl,fun i h=>absurd h (yJ _)⟩
 case round=>
  obtain⟨k,hk,rfl,rfl,aa⟩:=hrel;have j0:(0:Int)<=(k:Int):=by omega
  by_cases hlt:k<V.length
  .have j1:(k:Int)<(V.length:Int):=by omega
   obtain⟨b,o,rfl,aj,hc⟩:=hI.o (by omega);obtain⟨e0,e1,e2⟩:=hc k hlt;have hs:=ad.o k hlt;obtain⟨x,hx⟩:∃x,x=V[k]:=⟨_,rfl⟩;rw[<-hx]at e0 e1 e2 hs
   have af:Hid (x.2.1.size<=400->x.2.2.size<=400->∀i (_:i<k+1) (h:i<V.length),V[i].2.1.size<=400/\V[i].2.2.size<=400):=fun a c i h1 h2=>by
    rcases Nat.lt_succ_iff_lt_or_eq.1 h1 with h|rfl
    .exact aa.o i h h2
    rw[<-hx];exact⟨a,c⟩
   obtain⟨gg,nn,dd⟩:=x;dsimp only at e0 e1 e2 hs af;replace hx:=zh hx;clear hc aa
   by_cases h3:400<nn.size
   .have m1:decide ((400:Int)<(nn.size:Int))=true:=zH (by omega);have m2:decide (400<nn.size)=true:=zH h3;replace h3:=zh h3;go_wp2;go_ret;exact BPost.mkB (r:=false) rfl (fun h=>by cases h) d.o
   have m1:decide ((400:Int)<(nn.size:Int))=false:=zD (by omega);have m2:decide (400<nn.size)=false:=zD h3
   by_cases h4:400<dd.size
   .have m3:decide ((400:Int)<(dd.size:Int))=true:=zH (by omega);have m4:decide (400<dd.size)=true:=zH h4;replace h4:=zh h4;replace h3:=zh h3;go_wp2;go_ret;exact BPost.mkB (r:=false) rfl (fun h=>by cases h) d.o
   have m3:decide ((400:Int)<(dd.size:Int))=false:=zD (by omega);have m4:decide (400<dd.size)=false:=zD h4;have ag:=zh (af.o (by omega) (by omega));replace h4:=zh h4;replace h3:=zh h3;clear af;go_wp2;exact⟨⟨k+1,by omega,by go_num,by first|rfl|trivial,ag⟩,by simp only[intOf];omega⟩
  obtain rfl:k=V.length:=by omega
  go_wp2;go_ret;exact BPost.mkB (r:=true) rfl (fun _=>⟨by have:=h1.o;omega,by have:=h2.o;omega,fun i h=>aa.o i h h⟩) d.o
theorem PZ(s:SR)(Ap Ac Av Aw Ar:Option Addr)(cp cc cv cf cw cr:Nat)(Af:Option Addr)(F:List Int)(ab:Bool)(V:List Raw)(R:List Int)(w:World)(hs:StIn w s Ap Ac Av)(hF:F.length<=140737488355328)(hV:InRow w Aw V)(ai:V.length<=140737488355328)(ah:R.length<=140737488355328)
 (ae:∀k (h:k<V.length),V[k].2.1.size<=140737488355328/\V[k].2.2.size<=140737488355328):
 Calls Tryz.prog 6 #[.agg #[.slice Ap s.ps.length cp,.slice Ac s.cap.length cc,.slice Av s.vot.length cv],.slice Af F.length cf,.agg #[.bool ab,.slice Aw V.length cw,.slice Ar R.length cr]] w (BPost (fun r=>r=true->DZ s=true/\F.length<=70/\Kv V R) w):=by
 have d:Hid (Bk ((w.alloc (.cells #[.slice Ap s.ps.length cp,.slice Ac s.cap.length cc,.slice Av s.vot.length cv] 25)).alloc (.cells #[.bool ab,.slice Aw V.length cw,.slice Ar R.length cr] 29)) w.heap.size 25 (SC s Ap Ac Av cp cc cv)):=(Bk.new w _ _).alloc _;have af:Hid (Bk ((w.alloc (.cells #[.slice Ap s.ps.length cp,.slice Ac s.cap.length cc,.slice Av s.vot.length cv] 25)).alloc (.cells #[.bool ab,.slice Aw V.length cw,.slice Ar R.length cr] 29)) (w.heap.size+1) 29 [.bool ab,.slice Aw V.length cw,.slice Ar R.length cr]):=by have h:=Bk.new (w.alloc (.cells #[.slice Ap s.ps.length cp,.slice Ac s.cap.length cc,.slice Av s.vot.length cv] 25)) 29 [.bool ab,.slice Aw V.length cw,.slice Ar R.length cr];rw[zK]at h;exact h
 have aa:Hid (Below w.heap.size w ((w.alloc (.cells #[.slice Ap s.ps.length cp,.slice Ac s.cap.length cc,.slice Av s.vot.length cv] 25)).alloc (.cells #[.bool ab,.slice Aw V.length cw,.slice Ar R.length cr] 29))):=((zI _ w).alloc (zA _) _).alloc (by simp) _;have ks:=zh (Te s Ap Ac Av cp cc cv _ (hs.below aa.o));have u0:=d.o.c0;have u1:=d.o.c1;have u2:=d.o.c2;have u9:=d.o.lt;go_enter Tryz.func6,Tryz.ntmps6
 go_wp2_with fail
 refine ks.o.mono ?_;rintro e w2 ⟨rfl,hb⟩;have a:=zh (aa.o.trans (hb.mono aa.o.size));have ad:=zh (af.o.below hb);clear hb aa af d ks u0 u1 u2 u9;obtain⟨f,hf⟩:∃f,f=DZ s:=⟨_,rfl⟩;rw[<-hf]
 cases f with
 |false=>
  replace hf:=zh hf;go_wp2;go_ret;exact BPost.mkB (r:=false) rfl (fun h=>by cases h) a.o
 |true=>
  by_cases h1:F.length<=70
  .have m1:decide ((F.length:Int)<=(70:Int))=true:=zH (by omega);have m2:decide (F.length<=70)=true:=zH (by omega);have kc:=zh (LB ab Aw Ar cw cr V R w2 (hV.below a.o (zA _)) ai ah ae);have u0:=ad.o.c0;have u1:=ad.o.c1;have u2:=ad.o.c2;have u9:=ad.o.lt;replace h1:=zh h1;replace hf:=zh hf;replace ae:=zh ae;replace hV:=zh hV;replace hs:=zh hs
   go_wp2_with fail
   refine kc.o.mono ?_;rintro e w3 ⟨⟨r,rfl,hr⟩,hb⟩;have ag:=zh (a.o.trans (hb.mono a.o.size));replace hr:=zh hr;clear hb kc u0 u1 u2 u9;go_wp2;go_ret;exact BPost.mkB rfl (fun h=>⟨hf.o.symm,h1.o,hr.o h⟩) ag.o
  have m1:decide ((F.length:Int)<=(70:Int))=false:=zD (by omega);have m2:decide (F.length<=70)=false:=zD (by omega);replace h1:=zh h1;replace hf:=zh hf;go_wp2;go_ret;exact BPost.mkB (r:=false) rfl (fun h=>by cases h) a.o
structure CIn(W:World)(A B:Option Addr)(V:List Raw)(R:List Int):Prop where
 row:InRow W A V
 ints:InInt W B R
 lv:V.length<=140737488355328
 lr:R.length<=140737488355328
 sz:∀k (h:k<V.length),V[k].2.1.size<=140737488355328/\V[k].2.2.size<=140737488355328
theorem CIn.below{W W':World}{A B:Option Addr}{V:List Raw}{R:List Int}(h:CIn W A B V R)(hb:Below W.heap.size W W'):CIn W' A B V R:=⟨h.row.below hb (zA _),h.ints.below hb,h.lv,h.lr,h.sz⟩
theorem Ep{s:SR}(h:DZ s=true):s.cap.length<=300:=by
 by_cases c:s.ps.length<=70/\s.cap.length<=300/\s.vot.length<=300
 .exact c.2.1
 rw[Gp c]at h;cases h
theorem Oz{s:SR}(h:DZ s=true):s.ps.length<=70:=by
 by_cases c:s.ps.length<=70/\s.cap.length<=300/\s.vot.length<=300
 .exact c.1
 rw[Gp c]at h;cases h
theorem Eq(s:SR)(Ap Ac Av Af Aw Ar:Option Addr)(cp cc cv cf cw cr:Nat)(F:List Int)(ab:Bool)(V:List Raw)(R:List Int)(w:World)(hE:Env w)(hs:StIn w s Ap Ac Av)(d:s.cap.length<=300)(hF:InInt w Af F)(a:F.length<=140737488355328)(hC:CIn w Aw Ar V R):
 Calls Tryz.prog 8 #[.agg #[.slice Ap s.ps.length cp,.slice Ac s.cap.length cc,.slice Av s.vot.length cv],.slice Af F.length cf,.agg #[.bool ab,.slice Aw V.length cw,.slice Ar R.length cr]] w (ChkPost s F ab V R w) :=
 J1 s Ap Ac Av Af Aw Ar cp cc cv cf cw cr F ab V R w hE hs d hF a hC.row hC.lv hC.sz hC.ints hC.lr
theorem Kw(s:SR)(Ap Ac Av Aw Ar:Option Addr)(cp cc cv cf cw cr:Nat)(Af:Option Addr)(F:List Int)(ab:Bool)(V:List Raw)(R:List Int)(w:World)(hs:StIn w s Ap Ac Av)(hF:F.length<=140737488355328)(hC:CIn w Aw Ar V R):
 Calls Tryz.prog 6 #[.agg #[.slice Ap s.ps.length cp,.slice Ac s.cap.length cc,.slice Av s.vot.length cv],.slice Af F.length cf,.agg #[.bool ab,.slice Aw V.length cw,.slice Ar R.length cr]] w (BPost (fun r=>r=true->DZ s=true/\F.length<=70/\Kv V R) w) :=
 PZ s Ap Ac Av Aw Ar cp cc cv cf cw cr Af F ab V R w hs hF hC.row hC.lv hC.lr hC.sz
theorem Hz(ab:Bool)(Aw Ar:Option Addr)(cw cr:Nat)(V:List Raw)(R:List Int)(w:World)(hC:CIn w Aw Ar V R):
 Calls Tryz.prog 7 #[.agg #[.bool ab,.slice Aw V.length cw,.slice Ar R.length cr]] w (BPost (fun r=>r=true->Kv V R) w) :=
 LB ab Aw Ar cw cr V R w hC.row hC.lv hC.lr hC.sz
section
variable {s:SR} {F:List Int} {V:List Raw} {R:List Int} {ab:Bool}
theorem Chk.sound(h:Chk s F ab V R):As s=true:=h.1.1
theorem Chk.len(h:Chk s F ab V R):V.length=s.ps.length:=h.2.1
theorem Chk.rks(h:Chk s F ab V R):R.length=if ab=true then 0 else s.ps.length:=h.2.2.1
theorem Chk.fits(h:Chk s F ab V R):Cl V=true:=h.2.2.2.1
theorem Chk.nn(h:Chk s F ab V R)(p:Nat):0<=AY V p:=by
 obtain⟨_,D,hD⟩:=Em h.fits;exact hD.nn p
theorem Chk.abv(h:Chk s F true V R):Abv s.ps.length (Ae s.cap) (toN F) (AY V):=fun p hp=>⟨h.nn p,(h.2.2.2.2 p hp).1 rfl⟩
theorem Chk.blw(h:Chk s F false V R):Blw s.ps.length (Ae s.cap) (toN F) (AY V) (rnk R):=fun p hp=>⟨h.nn p,(h.2.2.2.2 p hp).2 rfl⟩
theorem Chk.short(h:Chk s F ab V R)(p:Nat):ShortQ (AY V p):=by
 obtain⟨_,D,hD⟩:=Em h.fits;exact hD.short p
theorem Chk.raw(h:Chk s F ab V R){p:Nat}(hp:p<V.length):V[p]=rq (AY V p):=by
 have h1:=(Em h.fits).1;have h2:V[p]? = (AO V.length (AY V))[p]?:=by rw[<-h1]
 rw[zY hp,zY (by rw[Ag];exact hp),BE]at h2;exact Option.some.inj h2
end
end Bd
end
section
open Go.ChangeShapes Go.WideShapes Go.ChangeAt Go.RowKit Go.Shelf Go.Joins Go.Deep
namespace Bd
open Nt Ci
section
variable {H:Type} {enc:TypeId×Value->H} {w:World} {base:Nat} {held:Bool}
def Tf(k:Bool)(V:List Raw)(R:List Int)(d:DataW H):Prop:=∃dv dr,d=.agg [.lit (.bool k),dv,dr]/\MQ V dv/\IL TM R dr
theorem Nz:Tryz.prog.cellsOf 29=3:=by kernel_rfl
theorem JA{r:Go.Reach}{b0:Nat}{v:Value}{d:DataW H}{p:List MemPlace}(hv:Value.okWide Tryz.prog w r b0 29 v)(h:DataW.Trod enc Tryz.prog w base (fun _=>true) held 29 v d p):
 ∃(k:Bool)(A D:Option Addr)(m o:Nat)(V:List Raw)(R:List Int),v=.agg #[.bool k,.slice A V.length m,.slice D R.length o]/\Tf k V R d/\InRow w A V/\InInt w D R:=by
 obtain⟨c0,c1,c2,y0,y1,y2,m,rfl,rfl,_,a,aa,ad⟩:=open_agg3 Tryz.underlying29 (by kernel_rfl) Nz hv h;obtain⟨k,e0,rfl⟩:=DataW.trod_bool Tryz.underlying4 a;obtain⟨A,m,V,e1,i1,m1⟩:=Ud aa;obtain⟨D,o,R,e2,i2,m2,_⟩:=Ie ad;simp only[List.cons.injEq,and_true]at e0 e1 e2;subst e0 e1 e2;exact⟨k,A,D,m,o,V,R,rfl,⟨_,_,rfl,i1,i2⟩,m1,m2⟩
theorem Tg{k:Bool}{V:List Raw}{R:List Int}{d:DataW H}{A D:Option Addr}(h:Tf k V R d)(hw:∀m∈d.weights Tryz.prog 29,m<=140737488351232)(m1:InRow w A V)(m2:InInt w D R):CIn w A D V R:=by
 obtain⟨dv,dr,rfl,i1,i2⟩:=h
 have e:(DataW.agg [.lit (.bool k),dv,dr]).weights Tryz.prog 29=dv.weights Tryz.prog 27++dr.weights Tryz.prog 26:=by
  simp[DataW.weights,DataW.weightsEach,Tryz.underlying29]
 rw[e]at hw;obtain⟨a1,a2⟩:=RS i1 fun m hm=>hw m (yN _ hm);obtain⟨b1,b2⟩:=FZ Tryz.underlying26 (wj (by decide:0<8) (by kernel_rfl)) i2 fun m hm=>hw m (yt _ hm);exact⟨m1,m2,a1,b1,fun i hi=>a2 _ (zN hi)⟩
end
end Bd
end
section
open Go.RowKit Go.Shelf
namespace Bd
open Nt Ci Sh
theorem LC{n:Nat}{f:Nat->Rat}{p:Nat}(hp:p<n):AY (AO n f) p=f p:=by
 have h:p<(AO n f).length:=by rw[Ag];exact hp
 rw[Kg h,BE,Ik]
section
variable {s:SR} {F:List Int}
theorem UA(W:World):InInt W none []:=fun h=>absurd h (by decide)
theorem VL{n:Nat}{o:Nat->Int}{p:Nat}(hp:p<n):rnk ((List.range n).map o) p=o p:=by
 unfold rnk;rw[yX,List.getElem?_map,List.getElem?_range hp];rfl
end
end Bd
end
section
open Go.RowKit Go.Shelf
namespace Sh
open Nt Ci
section
variable {l l':List Lk} {n k:Nat}
end
def wo(s:SR)(k:Nat):SR:=⟨s.ps,s.cap.eraseIdx k,s.vot⟩
end Sh
end
section
open Go.RowKit Go.Shelf
namespace Bd
open Nt Ci Sh
def jnV(ab:Bool)(v w:Nat->Rat)(p:Nat):Rat:=if decide (v p<=w p)=ab then v p else w p
def jnR(r t:Int):Int:=if r<0\/(0<=t/\t<r) then t else r
section
variable {s:SR} {F:List Int} {ab:Bool} {Va Vb V:List Raw} {Ra Rb R:List Int}
def N0(s:SR)(ab:Bool)(Ra Rb:List Int):List Int:=if ab=true then [] else (List.range s.ps.length).map fun p=>jnR (rnk Ra p) (rnk Rb p)
theorem Hd:(N0 s ab Ra Rb).length=if ab=true then 0 else s.ps.length:=by unfold N0;cases ab<;>simp
theorem LD(ha:Chk s F ab Va Ra)(hb:Chk s F ab Vb Rb)(hf:Cl (AO s.ps.length (jnV ab (AY Va) (AY Vb)))=true):
 Chk s F ab (AO s.ps.length (jnV ab (AY Va) (AY Vb))) (N0 s ab Ra Rb):=by
 refine⟨ha.1,Ag _ _,Hd,hf,?_⟩
 cases ab with
 |true=>
  have h:=Abv.join (u:=AY (AO s.ps.length (jnV true (AY Va) (AY Vb)))) (Cq ha.sound) ha.abv hb.abv fun p hp=>by
   rw[LC hp];unfold jnV
   by_cases c:AY Va p<=AY Vb p<;>simp[c]
  exact fun p hp=>⟨fun _=>(h p hp).2,fun e=>by cases e⟩
 |false=>
  have h:=Blw.join (u:=AY (AO s.ps.length (jnV false (AY Va) (AY Vb)))) (t:=rnk (N0 s false Ra Rb)) (Cq ha.sound) ha.blw hb.blw
   (fun p hp=>by
     rw[LC hp];unfold jnV
     by_cases c:AY Va p<=AY Vb p<;>simp[c])
   (fun p hp=>by
     show rnk ((List.range s.ps.length).map fun p=>jnR (rnk Ra p) (rnk Rb p)) p=_
     rw[VL hp];rfl)
  exact fun p hp=>⟨fun e=>(by cases e),fun _=>(h p hp).2⟩
theorem O0{n:Nat}{f:Nat->Rat}(h:∀p,p<n->ShortQ (f p)):∀k (hk:k<(AO n f).length),(AO n f)[k].2.1.size<=140737488355328/\(AO n f)[k].2.2.size<=140737488355328:=fun k hk=>by
 have a:k<n:=by rw[Ag]at hk;exact hk
 rw[BE];have h1:=Bw (h k a);exact⟨zS h1.1 (by decide),zS h1.2 (by decide)⟩
theorem LE{v w:Nat->Rat}{p:Nat}(h1:ShortQ (v p))(h2:ShortQ (w p)):ShortQ (jnV ab v w p):=by
 unfold jnV;split
 .exact h1
 exact h2
end
end Bd
end
section
open Go.RowKit Go.Shelf
namespace Bd
open Nt Ci Sh
def Dh(f:Nat->Int)(m:Nat):List Value:=(List.range m).map fun j=>.int .i64 (f j)
theorem N1(f:Nat->Int)(m:Nat):Dh f (m+1)=Dh f m++[.int .i64 (f m)]:=by unfold Dh;rw[xz,xG,vQ]
theorem Qa{W:World}{B m c:Nat}{A:Option Addr}{e:TypeId}{f:Nat->Int}(h:W.ownsRow B e 1 (.slice A m c) m (Dh f m)):InInt W A ((List.range m).map f):=fun h0=>by
 have d:0<m:=by simpa using h0
 rcases h.2 with⟨e1,_⟩|⟨g,cap,cur,e1,hb,hg,_⟩
 .injection e1 with _ e2 _;omega
 injection e1 with e2 _ e3;refine⟨g,0,e2,(Array.getElem?_eq_some_iff.1 hg).1,fun j hj=>?_⟩;have a:j<m:=by simpa using hj
 have hc:=h.cells (g:=g) (by rw[e2];rfl) j (.int .i64 (f j)) (by simp[Dh,a]);rw[show ((⟨g,0,none⟩:Addr).add j)=⟨g,0+j,none⟩ by unfold Addr.add;split<;>simp_all,yD]at hc;rw[yH,wK,yD];exact hc
theorem LF{W:World}{B m c:Nat}{A:Option Addr}{f:Nat->Rat}(h:W.ownsRow B 34 3 (.slice A m c) m (AA m fun p=>rq (f p))):InRow W A (AO m f):=by
 obtain⟨A2,c2,e,h2⟩:=E1 h;injection e with e1 _ _;rw[e1];exact h2
theorem JB{W:World}{base n m:Nat}{e:TypeId}{u:Value}{xs:List Value}(h:W.ownsRow base e m u n xs):∃A cap,u=.slice A n cap:=by
 rcases h.2 with⟨rfl,h0⟩|⟨g,cap,cur,rfl,_⟩
 .exact⟨none,0,by rw[h0]⟩
 exact⟨_,cap,rfl⟩
theorem GZ:(Tryz.prog.info? 3).map (fun i=>(i.zero,i.size,i.bytes))=some (some (.int .i64 0),1,8):=by kernel_rfl
theorem Dl{W:World}{b:Nat}{t:TypeId}{u0 u1 u2:Value}(h:Bk W b t [u0,u1,u2])(v0 v1 v2:Value):
 Bk (((W.setCell ⟨b,0,none⟩ v0).setCell ⟨b,1,none⟩ v1).setCell ⟨b,2,none⟩ v2) b t [v0,v1,v2]:=((h.set 0 v0).set 1 v1).set 2 v2
theorem H0{W:World}{b x:Nat}{t:TypeId}{l:List Value}(h:Bk W b t l)(a:b≠x)(v0 v1 v2:Value):
 Bk (((W.setCell ⟨x,0,none⟩ v0).setCell ⟨x,1,none⟩ v1).setCell ⟨x,2,none⟩ v2) b t l :=
 ((h.far (p:=⟨x,0,none⟩) a v0).far (p:=⟨x,1,none⟩) a v1).far (p:=⟨x,2,none⟩) a v2
theorem ED{w W:World}{x:Nat}(h:Below w.heap.size w W)(hx:w.heap.size<=x)(v0 v1 v2:Value):
 Below w.heap.size w (((W.setCell ⟨x,0,none⟩ v0).setCell ⟨x,1,none⟩ v1).setCell ⟨x,2,none⟩ v2) :=
 ((h.setCell (p:=⟨x,0,none⟩) hx v0).setCell (p:=⟨x,1,none⟩) hx v1).setCell (p:=⟨x,2,none⟩) hx v2
noncomputable def bjR(j:Nat):Code:=((Tryz.f3.body.map Ci.BB).bind fun l=>l.find? (Nb j)).getD .skip
theorem Wy{c0 c1 c2 c3 c4 c5 c8 c9 bE bF bG bH bI bJ bK bL bM bN bO bP bQ bR bS bT bU bW bX bY bZ b0 b1 b2 b3 b4 b5 b6 b7 b8 b9 ca cb cc cd ce cf cg ch ci cj ck cl cm cn co cq cr ct cu cv cw cx cy cz cA cB cC cD cE cF cG cH cI cJ cK cL cM cN cP cR cS cT cU cV cW cX az aA aB aC aD aE aF aG aH aI aJ aK aL aM aN aO aP aQ aR aS aT aU aV aW aX aY aZ a0 a1 a2 a3 a4 a5 a6 a7 a8 a9 bd be bf bg bh bi bj bk bm bn bo bp bq br bs bt bu bv bw bx bz bA bB bC cY cZ da a89 db dc dd de df dh di dj:Value}{Q:Exit->Act->World->Prop}(ya yb ba fa bb fb na ma nb mb p:Nat)(g1 g2:Bool)(n1 n2 d1 d2:ByteArray)(w:World)(HS:∀W,Below w.heap.size w W->(fun W=>W.cell? ⟨ya,1,none⟩=some (.slice (some ⟨ba,fa,none⟩) na ma)/\W.cell? ⟨yb,1,none⟩=some (.slice (some ⟨bb,fb,none⟩) nb mb)/\W.cell? ⟨ba,fa+p*3,none⟩=some (.bool g1)/\W.cell? ⟨ba,fa+p*3+1,none⟩=some (.string n1)/\W.cell? ⟨ba,fa+p*3+2,none⟩=some (.string d1)/\W.cell? ⟨bb,fb+p*3,none⟩=some (.bool g2)/\W.cell? ⟨bb,fb+p*3+1,none⟩=some (.string n2)/\W.cell? ⟨bb,fb+p*3+2,none⟩=some (.string d2)) W)(dk:p<na)(dl:p<nb)
 (h:∀(u88 u89 u90 u91 u92 u93 u94 u95 u96 u97:Value)(W:World)(xb zb:Nat)(_:Hid (Bk W xb 34 [.bool g1,.string n1,.string d1]))(_:Hid (Bk W zb 34 [.bool g2,.string n2,.string d2]))(_:Hid (Below w.heap.size w W))(_:Hid (w.heap.size<=xb/\w.heap.size<=zb/\xb≠zb)),Q .normal ⟨#[c0,c1,c2,c3,c4,c5,.pointer (some ⟨ya,0,none⟩),.pointer (some ⟨yb,0,none⟩),c8,c9,bE,.int .i64 (p:Int),.pointer (some ⟨xb,0,none⟩),.pointer (some ⟨zb,0,none⟩),bF,bG,bH,bI,bJ,bK,bL,bM,bN,bO,bP,bQ,bR,bS,bT,bU,bW,bX,bY,bZ,b0,b1,b2,b3,b4,b5,b6,b7,b8,b9,ca,cb,cc,cd,ce,cf,cg,ch,ci,cj,ck,cl,cm,cn,co,cq,cr,ct,cu,cv,cw,cx,cy,cz,cA,cB,cC,cD,cE,cF,cG,cH,cI,cJ,cK,cL,cM,cN,cP,cR,cS,cT,cU,cV,u88,u89,u90,u91,u92,u93,u94,u95,u96,u97,cW,cX,az,aA,aB,aC,aD,aE,aF,aG,aH,aI,aJ,aK,aL,aM,aN,aO,aP,aQ,aR,aS,aT,aU,aV,aW,aX,aY,aZ,a0,a1,a2,a3,a4,a5,a6,a7,a8,a9,bd,be,bf,bg,bh,bi,bj,bk,bm,bn,bo,bp,bq,br,bs,bt,bu,bv,bw,bx,bz,bA,bB,bC],[]⟩ W):
 Code.wp Tryz.prog (bjR 10) Q ⟨#[c0,c1,c2,c3,c4,c5,.pointer (some ⟨ya,0,none⟩),.pointer (some ⟨yb,0,none⟩),c8,c9,bE,.int .i64 (p:Int),cY,cZ,bF,bG,bH,bI,bJ,bK,bL,bM,bN,bO,bP,bQ,bR,bS,bT,bU,bW,bX,bY,bZ,b0,b1,b2,b3,b4,b5,b6,b7,b8,b9,ca,cb,cc,cd,ce,cf,cg,ch,ci,cj,ck,cl,cm,cn,co,cq,cr,ct,cu,cv,cw,cx,cy,cz,cA,cB,cC,cD,cE,cF,cG,cH,cI,cJ,cK,cL,cM,cN,cP,cR,cS,cT,cU,cV,da,a89,db,dc,dd,de,df,dh,di,dj,cW,cX,az,aA,aB,aC,aD,aE,aF,aG,aH,aI,aJ,aK,aL,aM,aN,aO,aP,aQ,aR,aS,aT,aU,aV,aW,aX,aY,aZ,a0,a1,a2,a3,a4,a5,a6,a7,a8,a9,bd,be,bf,bg,bh,bi,bj,bk,bm,bn,bo,bp,bq,br,bs,bt,bu,bv,bw,bx,bz,bA,bB,bC],[]⟩ w:=by
 conv=>arg 2;whnf
 conv=>arg 4;zeta
 replace h:=zh h;have hD:Hid (Below w.heap.size w w.drew):=(zI _ w).drew;have j0:(0:Int)<=(p:Int):=by omega
 have j1:(p:Int)<(na:Int):=by omega
 have j2:(p:Int)<(nb:Int):=by omega
 replace HS:=zh HS;refine xf ?_;refine xR (S:=fun W=>W.cell? ⟨ya,1,none⟩=some (.slice (some ⟨ba,fa,none⟩) na ma)/\W.cell? ⟨yb,1,none⟩=some (.slice (some ⟨bb,fb,none⟩) nb mb)/\W.cell? ⟨ba,fa+p*3,none⟩=some (.bool g1)/\W.cell? ⟨ba,fa+p*3+1,none⟩=some (.string n1)/\W.cell? ⟨ba,fa+p*3+2,none⟩=some (.string d1)/\W.cell? ⟨bb,fb+p*3,none⟩=some (.bool g2)/\W.cell? ⟨bb,fb+p*3+1,none⟩=some (.string n2)/\W.cell? ⟨bb,fb+p*3+2,none⟩=some (.string d2)) (by kernel_rfl) (HS.o _ hD.o) (fun ah=>?_);replace ah:=zh ah;refine tkeH (v:=?_) 0 rfl (ah.o) (Or.inl ⟨by rfl,?_⟩) ?_;rotate_left
 . (intro w aa;obtain⟨q1,q2,q3,q4,q5,q6,q7,q8⟩:=aa;go_simp<;>with_reducible rfl)
 try simp only[Act.put,zB]
 refine tkeH (v:=?_) 1 rfl (ah.o) (Or.inl ⟨by rfl,?_⟩) ?_;rotate_left
 . (intro w aa;obtain⟨q1,q2,q3,q4,q5,q6,q7,q8⟩:=aa;go_simp<;>with_reducible rfl)
 try simp only[Act.put]
 refine tkeH (v:=?_) 2 rfl (ah.o) (Or.inl ⟨by rfl,?_⟩) ?_;rotate_left
 . (intro w aa;obtain⟨q1,q2,q3,q4,q5,q6,q7,q8⟩:=aa;go_simp<;>with_reducible rfl)
 try simp only[Act.put]
 refine tkeH (v:=?_) 3 rfl (ah.o) (Or.inl ⟨by rfl,?_⟩) ?_;rotate_left
 . (intro w aa;obtain⟨q1,q2,q3,q4,q5,q6,q7,q8⟩:=aa;go_simp<;>with_reducible rfl)
 try simp only[Act.put]
 refine tkeH (v:=?_) 4 rfl (ah.o) (Or.inl ⟨by rfl,?_⟩) ?_;rotate_left
 . (intro w aa;obtain⟨q1,q2,q3,q4,q5,q6,q7,q8⟩:=aa;go_simp<;>with_reducible rfl)
 try simp only[Act.put]
 refine tkeH (v:=?_) 5 rfl (ah.o) (Or.inl ⟨by rfl,?_⟩) ?_;rotate_left
 . (intro w aa;obtain⟨q1,q2,q3,q4,q5,q6,q7,q8⟩:=aa;go_simp<;>with_reducible rfl)
 try simp only[Act.put]
 refine tkeH (v:=?_) 6 rfl (ah.o) (Or.inl ⟨by rfl,?_⟩) ?_;rotate_left
 . (intro w aa;obtain⟨q1,q2,q3,q4,q5,q6,q7,q8⟩:=aa;go_simp<;>with_reducible rfl)
 try simp only[Act.put]
 refine tkeH (v:=?_) 7 rfl (ah.o) (Or.inl ⟨by rfl,?_⟩) ?_;rotate_left
 . (intro w aa;obtain⟨q1,q2,q3,q4,q5,q6,q7,q8⟩:=aa;go_simp<;>with_reducible rfl)
 try simp only[Act.put]
 refine tkeH (v:=?_) 8 rfl (ah.o) (Or.inl ⟨by rfl,?_⟩) ?_;rotate_left
 . (intro w aa;obtain⟨q1,q2,q3,q4,q5,q6,q7,q8⟩:=aa;go_simp<;>with_reducible rfl)
 try simp only[Act.put]
 refine tkeH (v:=?_) 9 rfl (ah.o) (Or.inl ⟨by rfl,?_⟩) ?_;rotate_left
 . (intro w aa;obtain⟨q1,q2,q3,q4,q5,q6,q7,q8⟩:=aa;go_simp<;>with_reducible rfl)
 try simp only[Act.put]
 refine zT (rs:=[10,11]) (by kernel_rfl) (by simp) ?_;refine zL (o:=_) rfl (fun K hK=>?_) ?_
 .go_simp;obtain⟨W1,ai⟩:∃X,X=(w.alloc (.cells #[.bool false,.string ⟨#[]⟩,.string ⟨#[]⟩] 34)).drew:=⟨_,rfl⟩;obtain⟨x1,aj⟩:∃X,X=w.heap.size:=⟨_,rfl⟩;have al:Hid (Below w.heap.size w W1):=by rw[ai];exact((zI _ w).alloc (zA _) _).drew
  have ax:Hid (Bk W1 x1 34 [.bool false,.string ⟨#[]⟩,.string ⟨#[]⟩]):=by rw[ai,aj];have h:=Bk.new w 34 [.bool false,.string ⟨#[]⟩,.string ⟨#[]⟩];exact h
  have aq:Hid (w.heap.size<=x1/\True):=⟨by rw[aj];exact hD.o.size,trivial⟩;rw[<-ai,<-aj];refine hK.o _ _ (HS.o _ al.o) (fun _=>?_);clear hK K
  try simp only[Act.put,zB,zE,zC]
  replace ai:=zh ai;replace aj:=zh aj;refine zT (rs:=[11]) (by kernel_rfl) (by simp) ?_;refine zL (o:=_) rfl (fun K hK=>?_) ?_
  .go_simp;obtain⟨W2,ad⟩:∃X,X=(W1.alloc (.cells #[.bool false,.string ⟨#[]⟩,.string ⟨#[]⟩] 34)):=⟨_,rfl⟩;obtain⟨x2,ag⟩:∃X,X=W1.heap.size:=⟨_,rfl⟩;have au:Hid (Below w.heap.size w W2):=by rw[ad];exact al.o.alloc al.o.size _
   have ak:Hid (Bk W2 x2 34 [.bool false,.string ⟨#[]⟩,.string ⟨#[]⟩]):=by rw[ad,ag];exact Bk.new _ _ _
   have d:Hid (Bk W2 x1 34 [.bool false,.string ⟨#[]⟩,.string ⟨#[]⟩]):=by rw[ad];exact ax.o.alloc _
   have ar:Hid (w.heap.size<=x2/\x1<x2):=⟨by rw[ag];exact al.o.size,by rw[ag];exact ax.o.lt⟩;rw[<-ad,<-ag];refine hK.o _ _ (HS.o _ au.o) (fun _=>?_);clear hK K
   try simp only[Act.put,zB,zE,zC]
   replace ad:=zh ad;replace ag:=zh ag;refine zT (rs:=[12]) (by kernel_rfl) (by simp) ?_;refine zL (o:=_) rfl (fun K hK=>?_) ?_
   .have c0:=d.o.c0;have c1:=d.o.c1;have c2:=d.o.c2;have f0:=d.o.frozen 0;have f1:=d.o.frozen 1;have f2:=d.o.frozen 2;have c9:=d.o.lt;go_simp;clear c0 c1 c2 f0 f1 f2 c9;obtain⟨W3,ae⟩:∃X,X=(((W2.setCell ⟨x1,0,none⟩ (.bool g1)).setCell ⟨x1,1,none⟩ (.string n1)).setCell ⟨x1,2,none⟩ (.string d1)):=⟨_,rfl⟩;have av:Hid (Below w.heap.size w W3):=by rw[ae];exact ED au.o aq.o.1 _ _ _
    have am:Hid (Bk W3 x1 34 [.bool g1,.string n1,.string d1]):=by rw[ae];exact Dl d.o _ _ _
    have a:Hid (Bk W3 x2 34 [.bool false,.string ⟨#[]⟩,.string ⟨#[]⟩]):=by rw[ae];exact H0 ak.o (by have h1:=aq.o;have h2:=ar.o;omega) _ _ _
    rw[<-ae];refine hK.o _ _ (HS.o _ av.o) (fun _=>?_);clear hK K
    try simp only[Act.put,zB,zE,zC]
    replace ae:=zh ae;refine zT (rs:=[13]) (by kernel_rfl) (by simp) ?_;refine zL (o:=_) rfl (fun K hK=>?_) ?_
    .have c0:=a.o.c0;have c1:=a.o.c1;have c2:=a.o.c2;have f0:=a.o.frozen 0;have f1:=a.o.frozen 1;have f2:=a.o.frozen 2;have c9:=a.o.lt;go_simp;clear c0 c1 c2 f0 f1 f2 c9;obtain⟨W4,af⟩:∃X,X=(((W3.setCell ⟨x2,0,none⟩ (.bool g2)).setCell ⟨x2,1,none⟩ (.string n2)).setCell ⟨x2,2,none⟩ (.string d2)):=⟨_,rfl⟩;have aw:Hid (Below w.heap.size w W4):=by rw[af];exact ED av.o ar.o.1 _ _ _
     have an:Hid (Bk W4 x1 34 [.bool g1,.string n1,.string d1]):=by rw[af];exact H0 am.o (by have h1:=ar.o;have h2:=aq.o;omega) _ _ _
     have ao:Hid (Bk W4 x2 34 [.bool g2,.string n2,.string d2]):=by rw[af];exact Dl a.o _ _ _
     rw[<-af];refine hK.o _ _ (HS.o _ aw.o) (fun _=>?_);clear hK K
     try simp only[Act.put,zB,zE,zC]
     replace af:=zh af;have bD:Hid (w.heap.size<=x1/\w.heap.size<=x2/\x1≠x2):=by have h1:=aq.o;have h2:=ar.o;exact⟨h1.1,h2.1,by omega⟩
     refine xZ (by kernel_rfl) ?_ _;refine xM ?_;exact h.o _ _ _ _ _ _ _ _ _ _ _ _ _ an ao aw bD
    exact zQ
   exact zQ
  exact zQ
 refine zL (o:=_) rfl (fun K hK=>?_) ?_
 .go_simp;obtain⟨W1,ai⟩:∃X,X=(w.alloc (.cells #[.bool false,.string ⟨#[]⟩,.string ⟨#[]⟩] 34)).drew:=⟨_,rfl⟩;obtain⟨x1,aj⟩:∃X,X=w.heap.size:=⟨_,rfl⟩;have al:Hid (Below w.heap.size w W1):=by rw[ai];exact((zI _ w).alloc (zA _) _).drew
  have ax:Hid (Bk W1 x1 34 [.bool false,.string ⟨#[]⟩,.string ⟨#[]⟩]):=by rw[ai,aj];have h:=Bk.new w 34 [.bool false,.string ⟨#[]⟩,.string ⟨#[]⟩];exact h
  have aq:Hid (w.heap.size<=x1/\True):=⟨by rw[aj];exact hD.o.size,trivial⟩;rw[<-ai,<-aj];refine hK.o _ _ (HS.o _ al.o) (fun _=>?_);clear hK K
  try simp only[Act.put,zB,zE,zC]
  replace ai:=zh ai;replace aj:=zh aj;refine zT (rs:=[10]) (by kernel_rfl) (by simp) ?_;refine zL (o:=_) rfl (fun K hK=>?_) ?_
  .go_simp;obtain⟨W2,ad⟩:∃X,X=(W1.alloc (.cells #[.bool false,.string ⟨#[]⟩,.string ⟨#[]⟩] 34)):=⟨_,rfl⟩;obtain⟨x2,ag⟩:∃X,X=W1.heap.size:=⟨_,rfl⟩;have au:Hid (Below w.heap.size w W2):=by rw[ad];exact al.o.alloc al.o.size _
   have ak:Hid (Bk W2 x2 34 [.bool false,.string ⟨#[]⟩,.string ⟨#[]⟩]):=by rw[ad,ag];exact Bk.new _ _ _
   have ay:Hid (Bk W2 x1 34 [.bool false,.string ⟨#[]⟩,.string ⟨#[]⟩]):=by rw[ad];exact ax.o.alloc _
   have ar:Hid (w.heap.size<=x2/\x1<x2):=⟨by rw[ag];exact al.o.size,by rw[ag];exact ax.o.lt⟩;rw[<-ad,<-ag];refine hK.o _ _ (HS.o _ au.o) (fun _=>?_);clear hK K
   try simp only[Act.put,zB,zE,zC]
   replace ad:=zh ad;replace ag:=zh ag;refine zT (rs:=[12]) (by kernel_rfl) (by simp) ?_;refine zL (o:=_) rfl (fun K hK=>?_) ?_
   .have c0:=ak.o.c0;have c1:=ak.o.c1;have c2:=ak.o.c2;have f0:=ak.o.frozen 0;have f1:=ak.o.frozen 1;have f2:=ak.o.frozen 2;have c9:=ak.o.lt;go_simp;clear c0 c1 c2 f0 f1 f2 c9;obtain⟨W3,ae⟩:∃X,X=(((W2.setCell ⟨x2,0,none⟩ (.bool g1)).setCell ⟨x2,1,none⟩ (.string n1)).setCell ⟨x2,2,none⟩ (.string d1)):=⟨_,rfl⟩;have av:Hid (Below w.heap.size w W3):=by rw[ae];exact ED au.o ar.o.1 _ _ _
    have a:Hid (Bk W3 x1 34 [.bool false,.string ⟨#[]⟩,.string ⟨#[]⟩]):=by rw[ae];exact H0 ay.o (by have h1:=ar.o;have h2:=aq.o;omega) _ _ _
    have am:Hid (Bk W3 x2 34 [.bool g1,.string n1,.string d1]):=by rw[ae];exact Dl ak.o _ _ _
    rw[<-ae];refine hK.o _ _ (HS.o _ av.o) (fun _=>?_);clear hK K
    try simp only[Act.put,zB,zE,zC]
    replace ae:=zh ae;refine zT (rs:=[13]) (by kernel_rfl) (by simp) ?_;refine zL (o:=_) rfl (fun K hK=>?_) ?_
    .have c0:=a.o.c0;have c1:=a.o.c1;have c2:=a.o.c2;have f0:=a.o.frozen 0;have f1:=a.o.frozen 1;have f2:=a.o.frozen 2;have c9:=a.o.lt;go_simp;clear c0 c1 c2 f0 f1 f2 c9;obtain⟨W4,af⟩:∃X,X=(((W3.setCell ⟨x1,0,none⟩ (.bool g2)).setCell ⟨x1,1,none⟩ (.string n2)).setCell ⟨x1,2,none⟩ (.string d2)):=⟨_,rfl⟩;have aw:Hid (Below w.heap.size w W4):=by rw[af];exact ED av.o aq.o.1 _ _ _
     have ao:Hid (Bk W4 x1 34 [.bool g2,.string n2,.string d2]):=by rw[af];exact Dl a.o _ _ _
     have an:Hid (Bk W4 x2 34 [.bool g1,.string n1,.string d1]):=by rw[af];exact H0 am.o (by have h1:=aq.o;have h2:=ar.o;omega) _ _ _
     rw[<-af];refine hK.o _ _ (HS.o _ aw.o) (fun _=>?_);clear hK K
     try simp only[Act.put,zB,zE,zC]
     replace af:=zh af;have bD:Hid (w.heap.size<=x2/\w.heap.size<=x1/\x2≠x1):=by have h1:=ar.o;have h2:=aq.o;exact⟨h1.1,h2.1,by omega⟩
     refine xZ (by kernel_rfl) ?_ _;refine xM ?_;exact h.o _ _ _ _ _ _ _ _ _ _ _ _ _ an ao aw bD
    exact zQ
   exact zQ
  exact zQ
 exact zQ
theorem O1{R:List Int}{p:Nat}(h:p<R.length):R[p]=rnk R p:=by unfold rnk;rw[yX,zY h];rfl
structure JV(wm W:World)(bc:Nat)(v0 v3:Value)(f:Nat->Rat)(A:Option Addr)(c p:Nat):Prop where
 kp:Kp [bc] wm W
 blk:Bk W bc 29 [v0,.slice A p c,v3]
 vals:W.ownsRow wm.heap.size 34 3 (.slice A p c) p (AA p fun i=>rq (f i))
 lt:bc<wm.heap.size
section
variable {wm W W1 wa:World} {bc c p c3 p3:Nat} {v0 v3 v9:Value} {f:Nat->Rat} {r:Nat->Int} {A A3:Option Addr}
theorem JV.start(h:Bk wm bc 29 [v0,.slice none 0 0,v3]):JV wm wm bc v0 v3 f none 0 0 :=
 ⟨Kp.refl _ _,h,yU _ _ _ _,h.lt⟩
theorem JV.below(h:JV wm W bc v0 v3 f A c p)(hb:Below W.heap.size W W1):JV wm W1 bc v0 v3 f A c p:=⟨h.kp.below hb,h.blk.below hb,AS h.vals hb,h.lt⟩
theorem JV.ne(h:JV wm W bc v0 v3 f A c p):some bc≠(Value.slice A p c).ownBlock:=fun e=>by
 have h1:=(h.vals.lt bc e.symm).1;have h2:=h.lt;omega
theorem JV.app(h:JV wm W1 bc v0 v3 f A c p)(ho:wa.ownsRow wm.heap.size 34 3 v9 (p+1) ((AA p fun i=>rq (f i))++BK (rq (f p))))(hg:W1.grownBy wa (Value.slice A p c).ownBlock):
 ∃A9 c9,v9=.slice A9 (p+1) c9/\Kp [bc] wm wa/\Bk wa bc 29 [v0,.slice A p c,v3]/\JV wm (wa.setCell ⟨bc,1,none⟩ (.slice A9 (p+1) c9)) bc v0 v3 f A9 c9 (p+1):=by
 obtain⟨A9,c9,rfl⟩:=JB ho;have hk:Kp [bc] wm wa:=h.kp.grown hg fun b e=>.inr (h.vals.lt b e).1;have hb:Bk wa bc 29 [v0,.slice A p c,v3]:=h.blk.grown hg h.ne;rw[<-BR p fun i=>rq (f i)]at ho;exact⟨A9,c9,rfl,hk,hb,hk.set (a:=⟨bc,1,none⟩) _ (.inl (by simp)),hb.set 1 _,Hs ho (fun e=>by have:=(ho.lt bc e).1;have:=h.lt;omega),h.lt⟩
structure JR(wm W:World)(bc:Nat)(v0:Value)(f:Nat->Rat)(r:Nat->Int)(A:Option Addr)(c p:Nat)(A3:Option Addr)(c3 p3:Nat):Prop where
 jv:JV wm W bc v0 (.slice A3 p3 c3) f A c p
 rks:W.ownsRow wm.heap.size 3 1 (.slice A3 p3 c3) p3 (Dh r p3)
 ap:Apart (.slice A p c) (.slice A3 p3 c3)
theorem JR.start(h:Bk wm bc 29 [v0,.slice none 0 0,.slice none 0 0]):JR wm wm bc v0 f r none 0 0 none 0 0 :=
 ⟨JV.start h,yU _ _ _ _,Pw _⟩
theorem JR.below(h:JR wm W bc v0 f r A c p A3 c3 p3)(hb:Below W.heap.size W W1):JR wm W1 bc v0 f r A c p A3 c3 p3:=⟨h.jv.below hb,AS h.rks hb,h.ap⟩
theorem JR.app(h:JR wm W1 bc v0 f r A c p A3 c3 p3)(ho:wa.ownsRow wm.heap.size 34 3 v9 (p+1) ((AA p fun i=>rq (f i))++BK (rq (f p))))(hg:W1.grownBy wa (Value.slice A p c).ownBlock)
 (hn:v9.ownBlock=(Value.slice A p c).ownBlock\/v9.ownBlock=some W1.heap.size):
 ∃A9 c9,v9=.slice A9 (p+1) c9/\Kp [bc] wm wa/\Bk wa bc 29 [v0,.slice A p c,.slice A3 p3 c3]/\JR wm (wa.setCell ⟨bc,1,none⟩ (.slice A9 (p+1) c9)) bc v0 f r A9 c9 (p+1) A3 c3 p3:=by
 obtain⟨A9,c9,e,h1,h2,h3⟩:=h.jv.app ho hg;subst e;have h4:wa.ownsRow wm.heap.size 3 1 (.slice A3 p3 c3) p3 (Dh r p3):=Ld h.rks hg h.ap.symm;exact⟨A9,c9,rfl,h1,h2,h3,Hs h4 (fun e=>by have:=(h4.lt bc e).1;have:=h.jv.lt;omega),(Jn h.rks hn h.ap.symm).symm⟩
theorem JR.appR(h:JR wm W1 bc v0 f r A c p A3 c3 p3)(ho:wa.ownsRow wm.heap.size 3 1 v9 (p3+1) (Dh r p3++[.int .i64 (r p3)]))(hg:W1.grownBy wa (Value.slice A3 p3 c3).ownBlock)
 (hn:v9.ownBlock=(Value.slice A3 p3 c3).ownBlock\/v9.ownBlock=some W1.heap.size):
 ∃A9 c9,v9=.slice A9 (p3+1) c9/\Kp [bc] wm wa/\Bk wa bc 29 [v0,.slice A p c,.slice A3 p3 c3]/\JR wm (wa.setCell ⟨bc,2,none⟩ (.slice A9 (p3+1) c9)) bc v0 f r A c p A9 c9 (p3+1):=by
 obtain⟨A9,c9,rfl⟩:=JB ho;have hk:Kp [bc] wm wa:=h.jv.kp.grown hg fun b e=>.inr (h.rks.lt b e).1
 have hb:Bk wa bc 29 [v0,.slice A p c,.slice A3 p3 c3]:=h.jv.blk.grown hg fun e=>by
  have h1:=(h.rks.lt bc e.symm).1;have h2:=h.jv.lt;omega
 have hv:wa.ownsRow wm.heap.size 34 3 (.slice A p c) p (AA p fun i=>rq (f i)):=Ld h.jv.vals hg h.ap;rw[<-N1]at ho
 exact ⟨A9,c9,rfl,hk,hb,⟨hk.set (a:=⟨bc,2,none⟩) _ (.inl (by simp)),hb.set 2 _,Hs hv (fun e=>by have:=(hv.lt bc e).1;have:=h.jv.lt;omega),h.jv.lt⟩,
  Hs ho (fun e=>by have:=(ho.lt bc e).1;have:=h.jv.lt;omega),Jn h.jv.vals hn h.ap⟩
end
end Bd
end
section
open Go.RowKit Go.Shelf
namespace Nt
def OwnB(B:Nat)(w:World)(v:Value)(l:List UInt8):Prop:=w.ownsRow B 5 1 v l.length (Lib.byteCells l)
theorem UX:(Tryz.prog.info? 5).map (fun i=>(i.zero,i.size,i.bytes))=some (some (.int .u8 0),1,1):=by kernel_rfl
theorem IA(l:List UInt8)(c:UInt8):Lib.byteCells l++[Value.int .u8 (c.toNat:Int)]=Lib.byteCells (l++[c]):=by simp[Lib.byteCells]
theorem OwnB.below{B:Nat}{w w':World}{v:Value}{l:List UInt8}(h:OwnB B w v l)(hb:Below w.heap.size w w'):OwnB B w' v l:=by
 obtain⟨h1,h2⟩:=h;refine⟨h1,?_⟩
 rcases h2 with h2|⟨g,cap,cur,hv,hg,hh,r⟩
 .exact Or.inl h2
 exact Or.inr ⟨g,cap,cur,hv,hg,by rw[hb.block g (Array.getElem?_eq_some_iff.1 hh).1];exact hh,r⟩
theorem OwnB.form{B:Nat}{w:World}{v:Value}{l:List UInt8}(h:OwnB B w v l):(v=.slice none 0 0/\l=[])\/∃g cap,B<=g/\v=.slice (some ⟨g,0,none⟩) l.length cap/\∀j (hj:j<l.length),w.cell? ⟨g,j,none⟩=some (.int .u8 (l[j].toNat:Int)):=by
 rcases id h.2 with⟨h1,h2⟩|⟨g,cap,cur,h1,hg,_⟩
 .exact .inl ⟨h1,List.length_eq_zero_iff.1 h2⟩
 refine .inr ⟨g,cap,hg,h1,fun j hj=>?_⟩;subst h1;rw[World.ownsRow.cellAt h j (by omega)];simp[Lib.byteCells,hj]
theorem OwnB.text{B:Nat}{w:World}{v:Value}{l:List UInt8}(h:OwnB B w v l):
 (convert 145 9 v).run Tryz.prog w=.ok (.string ⟨l.toArray⟩) w:=by
 rcases h.form with⟨rfl,rfl⟩|⟨g,cap,_,rfl,hc⟩
 .exact run_convert_bytes_nil w _ _ Tryz.underlying145 Tryz.underlying5 0 0 _ Tryz.underlying9
 have:=run_convert_bytes_arg (P:=Tryz.prog) w 145 5 Tryz.underlying145 Tryz.underlying5 g 0 l.length cap (l.map fun c=>(c.toNat:Int)) (by simp)
  (fun i hi=>by rw[yD,hc i hi];simp[hi]) 9 Tryz.underlying9
 rw[this]
 have e:(l.map ((fun n:Int=>UInt8.ofNat n.toNat) ∘ fun c:UInt8=>(c.toNat:Int)))=l:=by
  conv=>rhs;rw[<-List.map_id l]
  exact xB fun c _=>by simp
 simp only[strOfNums,xh,e]
theorem OwnB.lit(B:Nat)(w:World)(c:UInt8)(hb:B<=w.heap.size):OwnB B (w.alloc (.cells #[.int .u8 (c.toNat:Int)] 5)) (.slice (some ⟨w.heap.size,0,none⟩) 1 1) [c] :=
 World.ownsRow_lit w #[.int .u8 (c.toNat:Int)] 1 hb (by unfold maxLen;omega) rfl
end Nt
end
section
open Go.RowKit
namespace Nt
def dgt(l:List UInt8)(i:Nat):Nat:=if h:i<l.length then (l[l.length-1-i]'(by omega)).toNat-48 else 0
theorem F3(l:List UInt8)(c:UInt8):dgt (l++[c]) 0=c.toNat-48:=by
 unfold dgt;rw[vy (by simp)];simp
theorem F5(l:List UInt8)(c:UInt8)(i:Nat):dgt (l++[c]) (i+1)=dgt l i:=by
 unfold dgt
 by_cases h:i<l.length
 .rw[vy (by simp;omega),vy h];have e:(l++[c]).length-1-(i+1)=l.length-1-i:=by simp;omega
  simp only[e];rw[List.getElem_append_left (by omega)]
 rw[dif_neg (by simp;omega),dif_neg h]
theorem O2(n i:Nat):dgt (Lib.decDigits n) i=n/10^i%10:=by
 induction i generalizing n with
 |zero=>
  rw[Lib.decDigits]
  split
  .rw[show ([UInt8.ofNat (48+n)]:List UInt8)=[]++[UInt8.ofNat (48+n)] from rfl,F3,Ba _ (by omega)];simp;omega
  rw[F3,Ba _ (wI _ (by omega))];simp
 |succ i ih=>
  rw[Lib.decDigits]
  split
  .rename_i h;rw[show ([UInt8.ofNat (48+n)]:List UInt8)=[]++[UInt8.ofNat (48+n)] from rfl,F5];have h1:dgt [] i=0:=rfl;have h2:n/10^(i+1)=0:=vk (zJ h (by rw[zu];have:0<10^i:=xT (by omega);omega));rw[h1,h2]
  rw[F5,ih,zu,zn,Nat.div_div_eq_div_mul]
theorem WM(n i:Nat):dgt (Lib.decDigits n) i<10:=by rw[O2];exact wI _ (by omega)
def dv:List Nat->Nat
 | []=>0
 |x::xs=>x+10*dv xs
theorem Qb(xs ys:List Nat):dv (xs++ys)=dv xs+10^xs.length*dv ys:=by
 induction xs with
 |nil=>simp[dv]
 |cons x xs ih=>
  simp only[yc,dv,ih,ze,zu,yT];rw[zn (10^xs.length) 10,zr];omega
theorem O3(xs:List Nat)(y:Nat):dv (xs++[y])=dv xs+10^xs.length*y:=by rw[Qb];simp[dv]
theorem Kx(zs:List Nat)(p y:Nat)(h:p<zs.length):dv (zs.set p y)+10^p*lim zs p=dv zs+10^p*y:=by
 induction zs generalizing p with
 |nil=>simp at h
 |cons z zs ih=>
  cases p with
  |zero=>simp[dv,lim];omega
  |succ p=>
   have:=ih p (by simpa using h);have e:lim (z::zs) (p+1)=lim zs p:=by simp[lim]
   rw[e];simp only[zC,dv,zu];rw[zn (10^p) 10,zr,zr];omega
theorem Th(n:Nat):dv (List.replicate n 0)=0:=by
 induction n with
 |zero=>rfl
 |succ n ih=>rw[List.replicate_succ,dv,ih]
theorem Wz(zs:List Nat)(p:Nat)(h:p<zs.length):10^p*lim zs p<=dv zs:=by
 have:=Kx zs p 0 h;omega
def Ck(ds:List Nat):List UInt8:=(ds.map fun d=>UInt8.ofNat (48+d)).reverse
theorem DD(ds:List Nat):(Ck ds).length=ds.length:=by simp[Ck]
theorem IB{ds:List Nat}(h:∀d∈ds,d<10):∀c∈Ck ds,AH c:=by
 intro c hc;simp only[Ck,List.mem_reverse,vX]at hc;obtain⟨d,hd,rfl⟩:=hc;have:=h d hd;unfold AH;rw[Ba _ this];omega
theorem He{ds:List Nat}(h:∀d∈ds,d<10):A4 (Ck ds)=dv ds:=by
 induction ds with
 |nil=>rfl
 |cons d ds ih=>
  have e:Ck (d::ds)=Ck ds++[UInt8.ofNat (48+d)]:=by simp[Ck]
  rw[e,Bv,ih (fun x hx=>h x (by simp[hx]))];have hd:=h d (by simp);simp only[ze,yQ,A4,wk,vD,Ba d hd,dv];omega
theorem UB{l:List UInt8}{i:Nat}(hd:∀c∈l,AH c)(hi:i<l.length)(hz:∀j,(h:j<i)->l[j]'(by omega)=48)(he:i+1=l.length\/l[i]≠48):
 l.drop i=Lib.decDigits (A4 l):=by
 have hv:A4 (l.drop i)=A4 l:=by
  have e:l=List.replicate i 48++l.drop i:=by
   conv=>lhs;rw[<-xK i l]
   congr 1
   apply List.ext_getElem
   .simp;omega
   intro j h1 h2;simp at h1;simp[hz j (by omega)]
  conv=>rhs;rw[e,H7]
 rw[<-hv];refine(Dx _ _ rfl ?_ (fun c hc=>hd c (wU hc)) ?_).symm
 .intro h;have:=congrArg List.length h;simp at this;omega
 rcases he with he|he
 .left;simp;omega
 right;rw[List.head?_drop,zY hi];intro e;exact he (Option.some.inj e)
theorem IC{a b:Nat}(h:(Lib.decDigits a).length<(Lib.decDigits b).length):a<b:=by
 have h0:0<(Lib.decDigits a).length:=List.length_pos_iff.2 (AL a);have h1:=(AM a _ h0).1 (zA _)
 have h2:¬b<10^(Lib.decDigits a).length:=fun h'=>by
  have:=AJ h' h0;omega
 omega
theorem Ti:∀{l m:List UInt8},l.length=m.length->(∀c∈l,AH c)->(∀c∈m,AH c)->(Op.bytesLess l m=true<->A4 l<A4 m):=by
 intro l
 induction l with
 |nil=>
  intro m hl _ _;have:m=[]:=List.length_eq_zero_iff.1 hl.symm;subst this;simp[Op.bytesLess]
 |cons a l ih=>
  intro m hl hd he
  cases m with
  |nil=>simp at hl
  |cons b m=>
   have d:l.length=m.length:=by simpa using hl
   have i:=ih d (fun c hc=>hd c (by simp[hc])) (fun c hc=>he c (by simp[hc]));have ha:=hd a (by simp);have hb:=he b (by simp);have h1:=DI (l:=l) (fun c hc=>hd c (by simp[hc]));have h2:=DI (l:=m) (fun c hc=>he c (by simp[hc]));rw[CB,CB,d];rw[d]at h1;generalize 10^m.length=P at *;unfold Op.bytesLess
   rcases ve a.toNat b.toNat with h|h|h
   .have e:(a<b)=True:=by simp[UInt8.lt_iff_toNat_lt,h]
    have h3:(a.toNat-48+1)*P<=(b.toNat-48)*P:=yG _ (by have:=ha.1;omega);rw[yF]at h3;simp only[e,decide_true,Bool.true_or,true_iff];omega
   .obtain rfl:a=b:=UInt8.toNat_inj.1 h;have e:(a<a)=False:=by simp
    simp only[e,decide_false,beq_self_eq_true,yo,Bool.false_or,i];omega
   have e:(a<b)=False:=by simp[UInt8.lt_iff_toNat_lt];omega
   have e2:(a==b)=false:=by rw[zM];intro h';subst h';omega
   have h3:(b.toNat-48+1)*P<=(a.toNat-48)*P:=yG _ (by have:=hb.1;omega);rw[yF]at h3;simp only[e,e2,decide_false,xv,Bool.or_false,wg,false_iff];omega
theorem Tj{a b:Nat}(h:(Lib.decDigits a).length=(Lib.decDigits b).length):Op.bytesLess (Lib.decDigits a) (Lib.decDigits b)=true<->a<b:=by
 have:=Ti h (A6 a) (A6 b)
 rwa [At,At]at this
theorem Cg(a i:Nat):a%10^(i+1)=a%10^i+10^i*(a/10^i%10):=by
 rw[zu,Nat.mod_mul]
theorem N7{D a b i c:Nat}(h:D+10^i*c=a%10^i+b%10^i):
 D+10^i*((a/10^i%10+b/10^i%10+c)%10)+10^(i+1)*((a/10^i%10+b/10^i%10+c)/10)=a%10^(i+1)+b%10^(i+1):=by
 rw[Cg,Cg,zu];generalize a/10^i%10=x;generalize b/10^i%10=y;generalize 10^i=P at *
 have e:P*(x+y+c)=P*((x+y+c)%10)+P*10*((x+y+c)/10):=by
  rw[zr,<-yT,Nat.mod_add_div]
 rw[yT,yT]at e;omega
theorem LG{D a b i c z c':Nat}(h:D+b%10^i=a%10^i+10^i*c)(e:z+b/10^i%10+c=a/10^i%10+10*c'):
 D+10^i*z+b%10^(i+1)=a%10^(i+1)+10^(i+1)*c':=by
 rw[Cg,Cg,zu];generalize a/10^i%10=x at *;generalize b/10^i%10=y at *;generalize 10^i=P at *
 have e2:P*z+P*y+P*c=P*x+P*10*c':=by
  rw[zr,<-yT,<-yT,<-yT,e]
 omega
theorem UC{a i:Nat}(h:(Lib.decDigits a).length<=i):a%10^i=a:=by
 have h0:0<(Lib.decDigits a).length:=List.length_pos_iff.2 (AL a);exact xr ((AM a i (by omega)).1 h)
end Nt
end
section
open Go.RowKit Go.Shelf
namespace Nt
theorem Gq{a b:ByteArray}(h:a=b):Ending.returned (.string a)=.returned (.string b):=by rw[h]
theorem DO{a b:Int}(h:a=b):Ending.returned (.int .i64 a)=.returned (.int .i64 b):=by rw[h]
theorem Hf{a b:Bool}(h:a=b):Ending.returned (.bool a)=.returned (.bool b):=by rw[h]
theorem JC{a b:ByteArray}(h:a.data.toList=b.data.toList):a=b:=by
 obtain⟨a⟩:=a;obtain⟨b⟩:=b;exact congrArg ByteArray.mk (Array.toList_inj.1 h)
theorem Bo(n:Nat):(num n).data.toList=Lib.decDigits n:=rfl
theorem BQ(n:Nat):(num n).size=(Lib.decDigits n).length:=by simp[num,ByteArray.size]
@[irreducible] def dch (d:Nat):UInt8:=UInt8.ofNat (48+d)
theorem N8(d:Nat):dch d=UInt8.ofNat (48+d):=by unfold dch;rfl
def DgRel(N m:Nat)(t:ByteArray):Prop:=(if m=0 then [] else Lib.decDigits m)++t.data.toList=Lib.decDigits N
theorem DgRel.start(N:Nat):DgRel N (N/10) ⟨#[UInt8.ofNat (48+N%10)]⟩:=by
 unfold DgRel
 conv=>rhs;rw[Lib.decDigits]
 split
 .rename_i h;rw[vy (by omega)];simp
  congr 2;omega
 rename_i h;rw[dif_neg (by omega)]
theorem DgRel.step{N m:Nat}{t:ByteArray}(h:DgRel N m t)(hm:0<m):DgRel N (m/10) (⟨#[UInt8.ofNat (48+m%10)]⟩++t):=by
 have h2:=DgRel.start m;unfold DgRel at *;rw[zF (by omega),<-h2]at h;rw[<-h];simp
theorem DgRel.done{N:Nat}{t:ByteArray}(h:DgRel N 0 t):t=num N:=JC (by unfold DgRel at h;simpa [num] using h)
theorem DgRel.size{N m:Nat}{t:ByteArray}(h:DgRel N m t)(hN:N<18446744073709551616):t.size<=20:=by
 have h1:=AJ (k:=20) (u:=N) (by omega) (by omega);have h2:=congrArg List.length h;have h3:t.size=t.data.toList.length:=x7 _;rw[zX]at h2;omega
theorem F7(d:Nat)(h:d<10)(w:World):
 (Instr.slice 9 (.string ⟨#[48,49,50,51,52,53,54,55,56,57]⟩) (some (.int .u64 (d:Int))) (some (.int .u64 ((d:Int)+1))) none).run Tryz.prog w=.ok (.string ⟨#[dch d]⟩) w:=by
 rw[N8];obtain rfl|rfl|rfl|rfl|rfl|rfl|rfl|rfl|rfl|rfl:d=0\/d=1\/d=2\/d=3\/d=4\/d=5\/d=6\/d=7\/d=8\/d=9:=by omega
 all_goals kernel_rfl
theorem N9(n:Nat)(w:World)(hn:n<18446744073709551616):
 Calls Tryz.prog 160 #[.int .u64 (n:Int)] w fun e w'=>e=.returned (.string (num n))/\w=w':=by
 obtain⟨d,hd⟩:∃d,d=n%10:=⟨_,rfl⟩;have h:d<10:=by omega
 have aa:(n:Int)%10=(d:Int):=by omega
 have a:=F7 d h;have HD:=zh hd;clear hd;go_enter Tryz.func160,Tryz.ntmps160;go_wp2;clear aa a
 go_loop [0,3] (fun m t=>∃(k:Nat)(s:ByteArray),m=.int .u64 (k:Int)/\t=.string s/\k<=n/\DgRel n k s) (fun m _=>(intOf m).toNat)
 case atStart=>exact⟨n/10,_,by first|rfl|(congr 1;omega),rfl,xo _ _,by rw[N8,HD.o];exact DgRel.start n⟩
 case round=>
  obtain⟨k,s,rfl,rfl,hk,hr⟩:=hrel
  by_cases h0:k=0
  .subst h0;have hs:=zh hr.done;clear hr;go_wp2;go_ret;exact⟨Gq hs.o,rfl⟩
  obtain⟨d,hd⟩:∃d,d=k%10:=⟨_,rfl⟩;have h:d<10:=by omega
  have aa:(k:Int)%10=(d:Int):=by omega
  have a:=F7 d h;have HD:=zh hd;have hz:=hr.size hn;have ad:(0:Int)<(k:Int):=by omega
  replace hr:=zh hr;clear hd;go_wp2;go_round
  case rel=>exact⟨k/10,_,by first|rfl|(congr 1;omega),rfl,by omega,by rw[N8,HD.o];exact hr.o.step (by omega)⟩
  case measure=>simp[intOf];omega
theorem DP(n:Nat)(w:World)(hn:n<=9223372036854775807):
 Calls Tryz.prog 127 #[.int .i64 (n:Int)] w fun e w'=>e=.returned (.string (num n))/\w=w':=by
 go_enter Tryz.func127,Tryz.ntmps127
 go_wp2_with (go_at_call 160;refine(N9 n _ (by omega)).mono ?_;rintro e w' ⟨rfl,rfl⟩)
 go_ret;exact⟨rfl,rfl⟩
def GG(l:List UInt8):Bool:=l.all (fun c=>decide (48<=c.toNat/\c.toNat<=57))&&(decide (l.length=1)||(decide (1<l.length)&&decide (l.head?≠some 48)))
theorem Tk(s:ByteArray):isN s=(decide (s.size<=300)&&GG s.data.toList):=by
 have hz:s.size=s.data.toList.length:=x7 _;unfold isN Q1 GG;rw[hz];generalize s.data.toList=l
 cases l with
 |nil=>rfl
 |cons a l=>
  cases l with
  |nil=>simp
  |cons b l=>simp
theorem Tl{l:List UInt8}{k:Nat}(h:k<l.length)(hb:¬AH l[k]):GG l=false:=by
 unfold GG
 have:l.all (fun c=>decide (48<=c.toNat/\c.toNat<=57))=false:=by
  rw[List.all_eq_false];exact⟨l[k],zN h,by simpa [AH] using hb⟩
 rw[this,xv]
theorem Qc{l:List UInt8}(h:∀c∈l,AH c):GG l=(decide (l.length=1)||(decide (1<l.length)&&decide (l.head?≠some 48))):=by
 unfold GG
 have:l.all (fun c=>decide (48<=c.toNat/\c.toNat<=57))=true:=by
  rw[wG];intro c hc
  simpa [AH] using h c hc
 rw[this,yo]
theorem LH(s:ByteArray)(w:World)(hs:s.size<=140737488355328):
 Calls Tryz.prog 125 #[.string s] w fun e w'=>e=.returned (.bool (GG s.data.toList))/\w=w':=by
 have hz:s.data.toList.length=s.size:=(x7 _).symm;have HZ:=zh hz;clear hz;go_enter Tryz.func125,Tryz.ntmps125;go_wp2
 go_loop [3] (fun i=>∃k:Nat,k<=s.size/\i=.int .i64 (k:Int)/\Hid (∀j (h:j<s.size),j<k->AH (s[j]))) (fun i=>s.size-(intOf i).toNat)
 case atStart=>exact⟨0,zP _,rfl,fun j _ h=>absurd h (by omega)⟩
 case round=>
  obtain⟨k,hk,rfl,hd⟩:=hrel
  by_cases hlt:k<s.size
  .have hb:Hid (¬AH s[k]->GG s.data.toList=false):=fun h=>Tl (k:=k) (by have:=HZ.o;omega) h
   by_cases h1:(s[k].toNat:Int)<48
   .go_wp2;go_ret;exact⟨Hf (hb.o (fun h=>by have:=h.1;omega)).symm,rfl⟩
   by_cases h2:(57:Int)<(s[k].toNat:Int)
   .go_wp2;go_ret;exact⟨Hf (hb.o (fun h=>by have:=h.2;omega)).symm,rfl⟩
   go_wp2;go_round
   case rel=>
    refine⟨k+1,by omega,by go_num,fun j h hj=>?_⟩
    by_cases e:j=k
    .subst e;exact⟨by omega,by omega⟩
    .exact hd.o j h (by omega)
   case measure=>simp[intOf];omega
  have hG:=zh (Qc (l:=s.data.toList) (fun c hc=>by
   obtain⟨j,hj,rfl⟩:=zo hc;exact hd.o j (by have:=HZ.o;omega) (by have:=HZ.o;omega)))
  have hl:=HZ.o
  by_cases e1:s.size=1
  .have f1:((s.size:Int)==1)=true:=by simp[e1]
   have hv:GG s.data.toList=true:=by rw[hG.o,hl,e1];rfl
   have HV:=zh hv;clear hl hv e1;go_wp2;go_ret;exact⟨Hf HV.o.symm,rfl⟩
  have f1:((s.size:Int)==1)=false:=by rw[zM];omega
  by_cases e0:s.size=0
  .have hv:GG s.data.toList=false:=by rw[hG.o,hl,e0];rfl
   have HV:=zh hv;have f2:decide ((1:Int)<(s.size:Int))=false:=by simp;omega
   clear hl hv e1 e0;go_wp2;go_ret;exact⟨Hf HV.o.symm,rfl⟩
  have hp:1<s.size:=by omega
  have a:0<s.size:=by omega
  have hv:GG s.data.toList=decide ((s[0].toNat:Int)≠48):=by
   rw[hG.o,hl,zD e1,zH hp,Bool.false_or,yo]
   have e:s.data.toList.head? = some s[0]:=by
    rw[vi,zY (by omega)];rfl
   rw[e]
   have key:(¬some s[0]=some (48:UInt8))<->¬((s[0].toNat:Int)=48):=by
    rw[Option.some.injEq,<-UInt8.toNat_inj];have:(48:UInt8).toNat=48:=rfl;omega
   exact decide_eq_decide.2 key
  have HV:=zh hv
  by_cases h48:(s[0].toNat:Int)=48
  .have f3:((s[0].toNat:Int)==48)=true:=by rw[xF];exact h48
   have f4:((s[0].toNat:Int) != 48)=false:=by simp[h48]
   have HW:Hid (GG s.data.toList=false):=by unfold Hid;rw[HV.o];simp[h48]
   clear hl hv e1 e0 h48;go_wp2;go_ret;exact⟨Hf HW.o.symm,rfl⟩
  have f3:((s[0].toNat:Int)==48)=false:=by rw[zM];exact h48
  have f4:((s[0].toNat:Int) != 48)=true:=by simp[h48]
  have HW:Hid (GG s.data.toList=true):=by unfold Hid;rw[HV.o];simp[h48]
  clear hl hv e1 e0 h48;go_wp2;go_ret;exact⟨Hf HW.o.symm,rfl⟩
theorem Ch(s:ByteArray)(w:World)(hs:s.size<=140737488355328):
 Calls Tryz.prog 76 #[.string s] w fun e w'=>e=.returned (.bool (isN s))/\w=w':=by
 have HN:=zh (Tk s)
 by_cases h:s.size<=300
 .rw[zH h,yo]at HN;have h':(s.size:Int)<=300:=by omega
  go_enter Tryz.func76,Tryz.ntmps76
  go_wp2_with (go_at_call 125;refine(LH s _ hs).mono ?_;rintro e w' ⟨rfl,rfl⟩)
  go_ret;exact⟨Hf HN.o.symm,rfl⟩
 rw[zD h,xv]at HN;have h':decide ((s.size:Int)<=300)=false:=by simp;omega
 go_enter Tryz.func76,Tryz.ntmps76;go_wp2;go_ret;exact⟨Hf HN.o.symm,rfl⟩
theorem Fr(a b:Nat)(w:World)(_ha:(num a).size<=140737488355328)(_hb:(num b).size<=140737488355328):
 Calls Tryz.prog 126 #[.string (num a),.string (num b)] w fun e w'=>e=.returned (.int .i64 (Bp a b))/\w=w':=by
 have ea:=BQ a;have eb:=BQ b
 rcases ve (num a).size (num b).size with h|h|h
 .have d:a<b:=IC (by omega);have HC:=zh (Cy d);clear ea eb d;go_enter Tryz.func126,Tryz.ntmps126;go_wp2;go_ret;exact⟨DO HC.o.symm,rfl⟩
 .have f1:decide ((num a).size<(num b).size)=false:=by simp;omega
  have f2:(((num a).size:Int)==((num b).size:Int))=true:=by simp[h]
  have aa:Op.bytesLess (num a).toList (num b).toList=decide (a<b):=by
   rw[yR,yR,Bo,Bo,wO,Tj (by omega)];simp
  have hq:((num a).toList==(num b).toList)=decide (a=b):=by
   rw[yR,yR,Bo,Bo,wO,xF,xt];constructor
   .intro e;have:=congrArg A4 e
    rwa [At,At]at this
   intro e;rw[e]
  rcases ve a b with d|d|d
  .rw[zH d]at aa;have HC:=zh (Cy d);clear ea eb h d hq;go_enter Tryz.func126,Tryz.ntmps126;go_wp2;go_ret;exact⟨DO HC.o.symm,rfl⟩
  .rw[zD (by omega)]at aa;rw[zH d]at hq;have HC:Hid (Bp a b=0):=by unfold Hid;rw[d];exact JL b
   clear ea eb h d;go_enter Tryz.func126,Tryz.ntmps126;go_wp2;go_ret;exact⟨DO HC.o.symm,rfl⟩
  rw[zD (by omega)]at aa;rw[zD (by omega)]at hq;have HC:Hid (Bp a b=1):=by unfold Hid Bp;simp[d,Nat.lt_asymm d]
  clear ea eb h d;go_enter Tryz.func126,Tryz.ntmps126;go_wp2;go_ret;exact⟨DO HC.o.symm,rfl⟩
 have d:b<a:=IC (by omega);have f1:decide ((num a).size<(num b).size)=false:=by simp;omega
 have f2:(((num a).size:Int)==((num b).size:Int))=false:=by rw[zM];omega
 have hq:((num a).toList==(num b).toList)=false:=by
  rw[zM,yR,yR];intro e;have:=congrArg List.length e;rw[Bo,Bo]at this;omega
 have HC:Hid (Bp a b=1):=by unfold Hid Bp;simp[d,Nat.lt_asymm d]
 clear ea eb d;go_enter Tryz.func126,Tryz.ntmps126;go_wp2;go_ret;exact⟨DO HC.o.symm,rfl⟩
theorem Gs{l:List UInt8}(h:∀c∈l,AH c)(k:Nat):A4 (l.take k)<10^k:=by
 have h1:=DI (l:=l.take k) (fun c hc=>h c (yO hc));exact zJ h1 (zV (by omega) (by simp;omega))
theorem EZ(s:ByteArray)(k:Nat)(h:k<s.size):A4 (s.data.toList.take (k+1))=A4 (s.data.toList.take k)*10+(s[k].toNat-48):=by
 rw[zO (by simpa using h),Bv];simp[A4];rfl
theorem Qe(s:ByteArray)(w:World)(hs:s.size<=18)(hd:∀c∈s.data.toList,AH c):
 Calls Tryz.prog 128 #[.string s] w fun e w'=>e=.returned (.int .i64 (A4 s.data.toList:Nat))/\w=w':=by
 have HD:=zh hd;clear hd;go_enter Tryz.func128,Tryz.ntmps128;go_wp2
 go_loop [3,4] (fun n i=>∃k v:Nat,k<=s.size/\i=.int .i64 (k:Int)/\n=.int .i64 (v:Int)/\Hid (v=A4 (s.data.toList.take k))) (fun _ i=>s.size-(intOf i).toNat)
 case atStart=>exact⟨0,0,zP _,rfl,rfl,rfl⟩
 case round=>
  obtain⟨k,v,hk,rfl,rfl,hv⟩:=hrel
  by_cases hlt:k<s.size
  .have hb:v<100000000000000000:=by
    have h1:=Gs HD.o k;have h2:10^k<=10^17:=zV (by omega) (by omega);have:=hv.o;omega
   have a:AH s[k]:=HD.o _ (by
    have:s[k]=s.data.toList[k]'(by simpa using hlt):=rfl;rw[this];exact zN _)
   have d:(48:Int)<=(s[k].toNat:Int):=by have:=a.1;omega
   have h:(s[k].toNat:Int)<=57:=by have:=a.2;omega
   have HS:=zh (EZ s k hlt);clear a;go_wp2;go_round
   case rel=>exact⟨k+1,v*10+(s[k].toNat-48),by omega,by go_num,by go_num,by unfold Hid;rw[HS.o,<-hv.o]⟩
   case measure=>simp[intOf];omega
  obtain rfl:k=s.size:=by omega
  have e:s.data.toList.take s.size=s.data.toList:=yK (by simp);rw[e]at hv;go_wp2;go_ret;exact⟨DO (by rw[hv.o]),rfl⟩
theorem Dw(n:Nat)(w:World)(hs:(num n).size<=18):
 Calls Tryz.prog 128 #[.string (num n)] w fun e w'=>e=.returned (.int .i64 (n:Nat))/\w=w':=by
 have:=Qe (num n) w hs (by rw[Bo];exact A6 n)
 rwa [Bo,At]at this
theorem Fa(s:ByteArray)(w:World)(hs:s.size<=140737488355328)(h0:0<s.size)(hd:∀c∈s.data.toList,AH c):
 Calls Tryz.prog 129 #[.string s] w fun e w'=>e=.returned (.string (num (A4 s.data.toList)))/\w=w':=by
 have HD:=zh hd;have HZ:Hid (s.data.toList.length=s.size):=(x7 _).symm;clear hd;go_enter Tryz.func129,Tryz.ntmps129;go_wp2
 go_loop [3] (fun i=>∃k:Nat,k<s.size/\i=.int .i64 (k:Int)/\Hid (∀j (h:j<s.data.toList.length),j<k->s.data.toList[j]=48)) (fun i=>s.size-(intOf i).toNat)
 case atStart=>exact⟨0,h0,rfl,fun j _ h=>absurd h (by omega)⟩
 case round=>
  obtain⟨k,hk,rfl,hz⟩:=hrel
  have a:Hid (k+1=s.size\/s[k]≠48->s.extract k s.size=num (A4 s.data.toList)):=fun h=>by
   apply JC;rw[Lib.extract_to_end,Bo];have d:=HZ.o;refine UB HD.o (i:=k) (by omega) (fun j hj=>hz.o j (by omega) hj) ?_
   rcases h with h|h
   .left;omega
   right;exact h
  by_cases he:k+1=s.size
  .have f1:decide ((k:Int)<(s.size:Int)-1)=false:=by simp;omega
   have HE:=zh he;clear he;go_wp2;go_ret;exact⟨Gq (a.o (.inl HE.o)),rfl⟩
  have hl:(k:Int)<(s.size:Int)-1:=by omega
  clear he
  by_cases h48:s[k]=48
  .have hc:(s[k].toNat:Int)=48:=by rw[h48];rfl
   have f2:((s[k].toNat:Int)==48)=true:=by rw[xF];exact hc
   have H48:=zh h48;clear hc h48;go_wp2;go_round
   case rel=>
    refine⟨k+1,by omega,by go_num,fun j h hj=>?_⟩
    by_cases e:j=k
    .subst e;exact H48.o
    .exact hz.o j h (by omega)
   case measure=>simp[intOf];omega
  have f2:((s[k].toNat:Int)==48)=false:=by
   rw[zM];intro e;apply h48;apply UInt8.toNat_inj.1;have:(48:UInt8).toNat=48:=rfl;omega
  have H48:=zh h48;clear h48;go_wp2;go_ret;exact⟨Gq (a.o (.inr H48.o)),rfl⟩
theorem Er(n i:Nat)(w:World)(hs:(num n).size<=140737488355328)(hi:i<=140737488355328):
 Calls Tryz.prog 131 #[.string (num n),.int .i64 (i:Int)] w fun e w'=>e=.returned (.int .i64 ((n/10^i%10:Nat):Int))/\w=w':=by
 have hd:Hid (n/10^i%10=dgt (Lib.decDigits n) i):=(O2 n i).symm;have hz:Hid ((num n).size=(Lib.decDigits n).length):=BQ n;generalize hv:n/10^i%10=v at hd
 by_cases h:i<(num n).size
 .have hj:((num n).size:Int)-1-(i:Int)=(((num n).size-1-i:Nat):Int):=by omega
  have aa:(num n).size-1-i<(num n).size:=by omega
  have d:AH ((num n)[(num n).size-1-i]):=A6 n _ (by
   have:(num n)[(num n).size-1-i]=(num n).data.toList[(num n).size-1-i]'(by simpa using aa):=rfl;rw[this];exact zN _)
  have a:Hid (v=(num n)[(num n).size-1-i].toNat-48):=by
   unfold Hid;rw[hd.o,dgt,vy (by have:=hz.o;omega)]
   congr 2
  have ad:(48:Int)<=((num n)[(num n).size-1-i].toNat:Int):=by have:=d.1;omega
  have ae:((num n)[(num n).size-1-i].toNat:Int)<=57:=by have:=d.2;omega
  clear d hv;go_enter Tryz.func131,Tryz.ntmps131;go_wp2;go_ret;exact⟨DO (by rw[a.o];omega),rfl⟩
 have a:Hid (v=0):=by
  unfold Hid;rw[hd.o,dgt,dif_neg (by have:=hz.o;omega)]
 clear hv;go_enter Tryz.func131,Tryz.ntmps131;go_wp2;go_ret;exact⟨DO (by rw[a.o];rfl),rfl⟩
theorem Fb(k:Nat)(w:World)(_hs:(num k).size<=140737488355328):
 Calls Tryz.prog 79 #[.string (num k)] w fun e w'=>e=.returned (.tuple #[.string (Ft k),.int .i64 (Fu k)])/\w=w':=by
 have hz:=BQ k
 have h:300<(num k).size<->¬k<Lim:=by
  have e:(Lib.decDigits k).length<=300<->k<Lim:=by
   have:=AM k mxd (by rw[CC];omega);rw[<-CC];exact this
  omega
 have HG:Hid ((k<Lim->Ft k=num k/\Fu k=0)/\(¬k<Lim->Ft k=⟨#[]⟩/\Fu k=2)):=by
  unfold Hid Ft Fu;exact⟨fun h=>by rw[zG h,zG h];exact⟨rfl,rfl⟩,fun h=>by rw[zF h,zF h];exact⟨rfl,rfl⟩⟩
 by_cases hk:k<Lim
 .have f:decide ((300:Int)<((num k).size:Int))=false:=by simp;have:=(not_congr h).2 (by simpa using hk);omega
  have HK:=HG.o.1 hk;replace HK:=zh HK;clear hz h hk HG;go_enter Tryz.func79,Tryz.ntmps79;go_wp2;go_ret2;exact⟨by rw[HK.o.1,HK.o.2];rfl,rfl⟩
 have f:(300:Int)<((num k).size:Int):=by have:=h.2 hk;omega
 have HK:=HG.o.2 hk;replace HK:=zh HK;clear hz h hk HG;go_enter Tryz.func79,Tryz.ntmps79;go_wp2;go_ret2;exact⟨by rw[HK.o.1,HK.o.2];rfl,rfl⟩
theorem GZ:(Tryz.prog.info? 3).map (fun i=>(i.zero,i.size,i.bytes))=some (some (.int .i64 0),1,8):=by kernel_rfl
def CW(ds:List Nat):List Value:=ds.map fun d:Nat=>Value.int .i64 (d:Int)
theorem ID(ds:List Nat)(d:Nat):CW ds++[Value.int .i64 (d:Int)]=CW (ds++[d]):=by simp[CW]
def OwnI(B:Nat)(w:World)(v:Value)(ds:List Nat):Prop:=w.ownsRow B 3 1 v ds.length (CW ds)
def NA(w:World)(v:Value)(ds:List Nat):Prop :=
 ∃g off cap,v=.slice (some ⟨g,off,none⟩) ds.length cap/\g<w.heap.size/\∀i,i<ds.length->w.cell? ⟨g,off+i,none⟩=some (.int .i64 (lim ds i))
theorem OwnI.at{B:Nat}{w:World}{v:Value}{ds:List Nat}(h:OwnI B w v ds)(h0:ds≠[]):NA w v ds:=by
 rcases id h.2 with⟨rfl,hx⟩|⟨g,cap,cur,rfl,hg,hh,hn,a,d,ht⟩
 .exact absurd (List.length_eq_zero_iff.1 hx) h0
 refine⟨g,0,cap,rfl,(Array.getElem?_eq_some_iff.1 hh).1,fun i hi=>?_⟩;rw[yD,World.ownsRow.cellAt h i (by omega)];simp[CW,lim,hi]
def RfRow(w:World)(g:Nat)(bs:List UInt8):Prop:=w.heap[g]? = some (.cells (bs.map fun c:UInt8=>Value.int .u8 (c.toNat:Int)).toArray 5 (0,0))
theorem RfRow.frozen{w:World}{g:Nat}{bs:List UInt8}(h:RfRow w g bs)(i:Nat):w.frozen? ⟨g,i,none⟩=false:=by
 unfold RfRow at h;simp[World.frozen?,h]
theorem RfRow.cell{w:World}{g:Nat}{bs:List UInt8}(h:RfRow w g bs){i:Nat}(hi:i<bs.length):w.cell? ⟨g,i,none⟩=some (.int .u8 (bs[i].toNat:Int)):=by
 unfold RfRow at h;simp only[World.cell?,h];simp[hi]
theorem RfRow.set{w:World}{g:Nat}{bs:List UInt8}(h:RfRow w g bs)(i:Nat)(c:UInt8):RfRow (w.setCell ⟨g,i,none⟩ (.int .u8 (c.toNat:Int))) g (bs.set i c):=by
 unfold RfRow at h ⊢;simp only[World.setCell,yz,h];simp[List.map_set]
theorem Qf(n:Nat):madeCells #[.int .u8 0] n=((List.replicate n (0:UInt8)).map fun c:UInt8=>Value.int .u8 (c.toNat:Int)).toArray:=by
 unfold madeCells;apply Array.ext
 .simp
 intro i h1 h2;have e:i%1=0:=wC i;simp[e]
theorem RfRow.made0(w:World)(n:Nat):RfRow (w.alloc (.cells (madeCells #[.int .u8 0] n) 5)) w.heap.size (List.replicate n 0):=by
 unfold RfRow;rw[yM,Qf]
theorem RfRow.text{w:World}{g:Nat}{bs:List UInt8}(h:RfRow w g bs):(convert 145 9 (.slice (some ⟨g,0,none⟩) bs.length bs.length)).run Tryz.prog w=.ok (.string ⟨bs.toArray⟩) w:=by
 have:=run_convert_bytes_arg (P:=Tryz.prog) w 145 5 Tryz.underlying145 Tryz.underlying5 g 0 bs.length bs.length (bs.map fun c=>(c.toNat:Int)) (by simp)
  (fun i hi=>by rw[yD,h.cell hi];simp[hi]) 9 Tryz.underlying9
 rw[this]
 have e:(bs.map ((fun n:Int=>UInt8.ofNat n.toNat) ∘ fun c:UInt8=>(c.toNat:Int)))=bs:=by
  conv=>rhs;rw[<-List.map_id bs]
  exact xB fun c _=>by simp
 simp only[strOfNums,xh,e]
theorem IE(n:Nat)(hn:n<=1000000)(w:World):
 (Instr.makeSlice 145 (.int .i64 (n:Int)) (.int .i64 (n:Int))).run Tryz.prog w =
   .ok (.slice (some ⟨w.heap.size,0,none⟩) n n) (w.alloc (.cells (madeCells #[.int .u8 0] n) 5)) :=
 wV 145 5 (.int .u8 0) 1 Tryz.underlying145 UX rfl .i64 .i64 n (by omega) (by omega) w
def Fc(ds:List Nat)(k:Nat):List UInt8:=List.replicate (ds.length-k) 0++Ck (ds.take k)
theorem Qg(ds:List Nat)(k:Nat)(h:k<=ds.length):(Fc ds k).length=ds.length:=by simp[Fc,DD];omega
theorem NB(ds:List Nat):Fc ds 0=List.replicate ds.length 0:=by simp[Fc,Ck]
theorem Qh(ds:List Nat):Fc ds ds.length=Ck ds:=by simp[Fc]
theorem LI(ds:List Nat)(d:Nat):Ck (ds++[d])=UInt8.ofNat (48+d)::Ck ds:=by simp[Ck]
theorem NC(ds:List Nat)(k:Nat)(h:k<ds.length):(Fc ds k).set (ds.length-1-k) (UInt8.ofNat (48+lim ds k))=Fc ds (k+1):=by
 unfold Fc;rw[zO h,LI,DR _ _ h];have e:ds.length-k=(ds.length-(k+1))+1:=by omega
 rw[e,List.replicate_succ',xw];have e2:ds.length-1-k=(List.replicate (ds.length-(k+1)) (0:UInt8)).length:=by simp;omega
 rw[e2,wv _ _ (zA _)];simp
def UD(w:World)(ds:List Nat)(k:Nat)(wr:World):Prop:=RfRow wr w.heap.size (Fc ds k)/\Below w.heap.size w wr
theorem Fd(w:World)(v:Value)(ds:List Nat)(h:NA w v ds)(h0:0<ds.length)(hl:ds.length<=100000)(hd:∀d∈ds,d<10):
 Calls Tryz.prog 132 #[v] w fun e w'=>e=.returned (.string (num (dv ds)))/\Below w.heap.size w w':=by
 obtain⟨g,off,cap,rfl,hg,hc⟩:=h;have a:=IE ds.length (by omega);have HD:=zh hd;have HC:=zh hc;have HV:Hid (A4 (Ck ds)=dv ds):=He hd;clear hd hc;go_enter Tryz.func132,Tryz.ntmps132;go_wp2
 go_loopw [4] (fun i wr=>∃k:Nat,k<=ds.length/\i=.int .i64 (k:Int)/\UD w ds k wr) (fun i _=>ds.length-(intOf i).toNat)
 case atStart=>exact⟨0,zP _,rfl,by rw[NB];exact RfRow.made0 _ _,(zI _ _).alloc (zA _) _⟩
 case round=>
  obtain⟨k,hk,rfl,z1,z2⟩:=hrel;have ah:=z2.size
  by_cases hlt:k<ds.length
  .have ae:=(z2.cell (p:=⟨g,off+k,none⟩) hg).trans (HC.o k hlt);have ad:lim ds k<10:=by rw[DR _ _ hlt];exact HD.o _ (zN _)
   have hj:(ds.length:Int)-1-(k:Int)=((ds.length-1-k:Nat):Int):=by omega
   have ag:ds.length-1-k<ds.length:=by omega
   have aa:=z1.cell (i:=ds.length-1-k) (by rw[Qg _ _ hk];omega);have af:=z1.frozen (ds.length-1-k)
   have HS:Hid (RfRow (wr.setCell ⟨w.heap.size,ds.length-1-k,none⟩ (.int .u8 (48+(lim ds k:Int)))) w.heap.size (Fc ds (k+1))):=by
    have:=z1.set (ds.length-1-k) (UInt8.ofNat (48+lim ds k));rw[NC _ _ hlt,Ba _ ad]at this;have e:((48+lim ds k:Nat):Int)=48+(lim ds k:Int):=by omega
    rw[e]at this;exact this
   replace z2:=zh z2;clear z1 a;go_wp2
   go_roundw
   case rel=>exact⟨k+1,by omega,by go_num,HS.o,z2.o.setCell (zA _) _⟩
   case measure=>simp[intOf];omega
  obtain rfl:k=ds.length:=by omega
  rw[Qh]at z1;have ht:=z1.text;rw[DD]at ht;replace z2:=zh z2;clear z1 a
  go_wp2_with fail
  refine(Fa ⟨(Ck ds).toArray⟩ _ (by have:=DD ds;simp[ByteArray.size];omega) (by have:=DD ds;simp[ByteArray.size];omega) (by simpa using IB HD.o)).mono ?_;rintro e w' ⟨rfl,rfl⟩;go_wp2;go_ret;exact⟨Gq (by rw[<-HV.o]),z2.o⟩
theorem W6{ds:List Nat}(h:∀d∈ds,d<10):dv ds<10^ds.length:=by
 rw[<-He h];have:=DI (IB h)
 rwa [DD]at this
theorem B0(n:Nat):n<10^(num n).size:=by
 rw[BQ];exact(AM n _ (List.length_pos_iff.2 (AL n))).1 (zA _)
theorem Gt(n:Nat):0<(num n).size:=by rw[BQ];exact List.length_pos_iff.2 (AL n)
theorem Et{a b:Nat}(h:a<=b):(num a).size<=(num b).size:=by
 have h1:=B0 b;have h2:=Gt b;rw[BQ a];exact AJ (zl h h1) h2
theorem LJ{a k:Nat}(h:(num a).size<=k):a%10^k=a:=UC (by rw[BQ]at h;exact h)
theorem LK{ds:List Nat}{d:Nat}(h:∀x∈ds,x<10)(hd:d<10):∀x∈ds++[d],x<10:=by
 intro x hx
 rcases List.mem_append.1 hx with h1|h1
 .exact h x h1
 simp at h1;omega
def O4(w:World)(a b:Nat)(k c:Nat)(v:Value)(wr:World):Prop :=
 ∃ds,ds.length=k/\(∀d∈ds,d<10)/\OwnI w.heap.size wr v ds/\dv ds+10^k*c=a%10^k+b%10^k/\Below w.heap.size w wr
theorem Tm{D a b M c:Nat}(h:D+10^(M+1)*c=a%10^(M+1)+b%10^(M+1))(ha:a<10^M)(hb:b<10^M):D=a+b:=by
 have e:10^(M+1)=10^M*10:=zu ..;rw[xr (by omega),xr (by omega)]at h
 rcases yr c with h0|h0
 .subst h0;omega
 have:10^(M+1)*1<=10^(M+1)*c:=yE _ h0;omega
theorem Tn(a b:Nat)(w:World)(ha:(num a).size<=10000)(hb:(num b).size<=10000)(aa:¬((num a).size<=18/\(num b).size<=18)):
 Calls Tryz.prog 141 #[.string (num a),.string (num b)] w fun e w'=>e=.returned (.string (num (a+b)))/\Below w.heap.size w w':=by
 obtain⟨i0,hi,ah,ai,aj⟩:=vO GZ;obtain⟨M,hM⟩:∃M,M=max (num a).size (num b).size:=⟨_,rfl⟩;have an:max ((num a).size:Int) ((num b).size:Int)=(M:Int):=by omega
 have al:M<=10000:=by omega
 have HA:Hid (a<10^M/\b<10^M):=⟨zJ (B0 a) (zV (by omega) (by omega)),zJ (B0 b) (zV (by omega) (by omega))⟩;have af:18<(num a).size\/((num a).size<=18/\18<(num b).size):=by omega
 clear hM aa
 rcases af with ae|⟨ae,ak⟩
 all_goals
  go_enter Tryz.func141,Tryz.ntmps141;go_wp2
  go_loopw [5,6,7] (fun v c i wr=>∃k cc:Nat,k<=M+1/\i=.int .i64 (k:Int)/\c=.int .i64 (cc:Int)/\cc<=1/\O4 w a b k cc v wr) (fun _ _ i _=>M+1-(intOf i).toNat)
  case atStart=>exact⟨0,0,by omega,rfl,rfl,by omega,[],rfl,fun _ h=>absurd h (by simp),yU _ _ _ _,by simp[dv,Nat.mod_one],zI _ _⟩
  case round=>
   obtain⟨k,cc,hk,rfl,rfl,am,ds,z1,z2,z3,z4,z5⟩:=hrel;have ag:=z5.size
   by_cases hlt:k<M+1
   .obtain ⟨x,hx⟩:∃x,x=a/10^k%10:=⟨_,rfl⟩;obtain⟨y,hy⟩:∃y,y=b/10^k%10:=⟨_,rfl⟩;have cx:=Er a k wr (by omega) (by omega);have cy:=Er b k wr (by omega) (by omega);have hr:=N7 z4;rw[<-hx]at cx hr;rw[<-hy]at cy hr;have ao:x<10:=by omega
    have aq:y<10:=by omega
    have e1:(((x+y+cc)%10:Nat):Int)=((x:Int)+(y:Int)+(cc:Int))%10:=by omega
    have HS:Hid (∀w2 v2,w2.ownsRow w.heap.size 3 1 v2 (ds.length+1) (CW ds++[Value.int .i64 (((x:Int)+(y:Int)+(cc:Int))%10)])->Below w.heap.size w w2->O4 w a b (k+1) ((x+y+cc)/10) v2 w2):=fun w2 v2 ho hb=>by
     refine⟨ds++[(x+y+cc)%10],by simp[z1],LK z2 (by omega),?_,?_,hb⟩
     .unfold OwnI;rw[<-ID,e1,zX];exact ho
     rw[O3,z1];exact hr
    have HO:Hid (wr.ownsRow w.heap.size 3 1 u5 ds.length (CW ds)):=z3;have HB:=zh z5;have HL:Hid (ds.length=k):=z1;clear z1 z2 z3 z4 z5 hx hy hr e1
    go_wp2_with fail
    refine cx.mono ?_;rintro e w1 ⟨rfl,rfl⟩
    go_wp2_with fail
    refine cy.mono ?_;rintro e w1 ⟨rfl,rfl⟩;clear cx cy
    go_wp2_with (at_builtin;refine xx _ rfl _ _ 26 rfl w.heap.size 3 i0 (.int .i64 0) 1 8 Tryz.underlying26 hi ah ai aj rfl (by decide) u5 ds.length (CW ds) rfl (HO.o.alloc _) ⟨wr.heap.size,0,none⟩ 1 1 [.int .i64 (((x:Int)+(y:Int)+(cc:Int))%10)] rfl rfl (Co _ _ _) (BU _ _) (by have:=HL.o;unfold maxLen;omega) (by have:=HL.o;omega) (by simp;omega) ?_;intro v2 w2 d ad _)
    refine⟨⟨k+1,(x+y+cc)/10,by omega,by go_num,by go_num,by omega,HS.o w2 v2 d ((HB.o.alloc (by omega) _).grown ad (by simp;omega) (fun b e=>(HO.o.lt b e).1))⟩,by simp only[intOf];omega⟩
   obtain rfl:k=M+1:=by omega
   have hv:=Tm z4 HA.o.1 HA.o.2;have ct:=Fd wr u5 ds (z3.at (by intro h;rw[h]at z1;simp at z1)) (by omega) (by omega) z2;rw[hv]at ct;replace z5:=zh z5;clear z1 z2 z3 z4 hv
   go_wp2_with fail
   refine ct.mono ?_;rintro e w1 ⟨rfl,hb⟩;have hB:=zh (z5.o.trans (hb.mono ag));clear hb ct;go_wp2;go_ret;exact⟨rfl,hB.o⟩
theorem To{a:Nat}(h:(num a).size<=18):a<1000000000000000000:=by
 have h1:=B0 a;have h2:10^(num a).size<=10^18:=zV (by omega) h;omega
theorem W7{a:Nat}(h:(num a).size<=9):a<1000000000:=by
 have h1:=B0 a;have h2:10^(num a).size<=10^9:=zV (by omega) h;omega
theorem ND(a b:Nat)(w:World)(ha:(num a).size<=18)(hb:(num b).size<=18):
 Calls Tryz.prog 141 #[.string (num a),.string (num b)] w fun e w'=>e=.returned (.string (num (a+b)))/\w=w':=by
 have h1:=To ha;have h2:=To hb;have c1:=Dw a w ha;have c2:=Dw b w hb;have c3:=DP (a+b) w (by omega);rw[yq]at c3;go_enter Tryz.func141,Tryz.ntmps141
 go_wp2_with fail
 refine c1.mono ?_;rintro e w1 ⟨rfl,rfl⟩
 go_wp2_with fail
 refine c2.mono ?_;rintro e w1 ⟨rfl,rfl⟩
 go_wp2_with fail
 refine c3.mono ?_;rintro e w1 ⟨rfl,rfl⟩;go_wp2;go_ret;exact⟨rfl,rfl⟩
theorem Tp(a b:Nat)(w:World)(ha:(num a).size<=10000)(hb:(num b).size<=10000):
 Calls Tryz.prog 141 #[.string (num a),.string (num b)] w fun e w'=>e=.returned (.string (num (a+b)))/\Below w.heap.size w w':=by
 by_cases h:(num a).size<=18/\(num b).size<=18
 .refine(ND a b w h.1 h.2).mono ?_;rintro e w' ⟨rfl,rfl⟩;exact⟨rfl,zI _ _⟩
 exact Tn a b w ha hb h
def LL(w:World)(a b:Nat)(k c:Nat)(v:Value)(wr:World):Prop :=
 ∃ds,ds.length=k/\(∀d∈ds,d<10)/\OwnI w.heap.size wr v ds/\dv ds+b%10^k=a%10^k+10^k*c/\Below w.heap.size w wr
theorem Qi{D a b k c:Nat}(h:D+b%10^k=a%10^k+10^k*c)(ha:a<10^k)(hb:b<=a)(hD:D<10^k):D=a-b:=by
 rw[xr (by omega),xr ha]at h
 rcases yr c with h0|h0
 .subst h0;omega
 have:10^k*1<=10^k*c:=yE _ h0;omega
theorem Qj(a b:Nat)(w:World)(ha:(num a).size<=10000)(ae:b<=a):
 Calls Tryz.prog 130 #[.string (num a),.string (num b)] w fun e w'=>e=.returned (.string (num (a-b)))/\Below w.heap.size w w':=by
 obtain⟨i0,hi,af,ag,ah⟩:=vO GZ;have hb:=Et ae;have ak:=Gt a;have HA:=zh (B0 a);replace ae:=zh ae;go_enter Tryz.func130,Tryz.ntmps130;go_wp2
 go_loopw [5,6,7] (fun v c i wr=>∃k cc:Nat,k<=(num a).size/\i=.int .i64 (k:Int)/\c=.int .i64 (cc:Int)/\cc<=1/\LL w a b k cc v wr) (fun _ _ i _=>(num a).size-(intOf i).toNat)
 case atStart=>exact⟨0,0,by omega,rfl,rfl,by omega,[],rfl,fun _ h=>absurd h (by simp),yU _ _ _ _,by simp[dv,Nat.mod_one],zI _ _⟩
 case round=>
  obtain⟨k,cc,hk,rfl,rfl,al,ds,z1,z2,z3,z4,z5⟩:=hrel;have aj:=z5.size
  by_cases hlt:k<(num a).size
  .obtain ⟨x,hx⟩:∃x,x=a/10^k%10:=⟨_,rfl⟩;obtain⟨y,hy⟩:∃y,y=b/10^k%10:=⟨_,rfl⟩;have cx:=Er a k wr (by omega) (by omega);have cy:=Er b k wr (by omega) (by omega);rw[<-hx]at cx;rw[<-hy]at cy;have am:x<10:=by omega
   have an:y<10:=by omega
   have HS:Hid (∀(z c':Nat) (d:Int) w2 v2,z<10->c'<=1->z+y+cc=x+10*c'->d=(z:Int)->w2.ownsRow w.heap.size 3 1 v2 (ds.length+1) (CW ds++[Value.int .i64 d])->Below w.heap.size w w2->LL w a b (k+1) c' v2 w2):=fun z c' d w2 v2 hz hc he ai ho hb=>by
    subst ai;refine⟨ds++[z],by simp[z1],LK z2 hz,?_,?_,hb⟩
    .unfold OwnI;rw[<-ID,zX];exact ho
    rw[O3,z1];exact LG z4 (by rw[<-hx,<-hy];exact he)
   have HO:Hid (wr.ownsRow w.heap.size 3 1 u5 ds.length (CW ds)):=z3;have HB:=zh z5;have HL:Hid (ds.length=k):=z1;clear z1 z2 z3 z4 z5 hx hy
   by_cases hneg:x<y+cc
   all_goals
    go_wp2_with fail
    refine cx.mono ?_;rintro e w1 ⟨rfl,rfl⟩
    go_wp2_with fail
    refine cy.mono ?_;rintro e w1 ⟨rfl,rfl⟩;clear cx cy
   .go_wp2_with (at_builtin;refine xx _ rfl _ _ 26 rfl w.heap.size 3 i0 (.int .i64 0) 1 8 Tryz.underlying26 hi af ag ah rfl (by decide) u5 ds.length (CW ds) rfl (HO.o.alloc _) ⟨wr.heap.size,0,none⟩ 1 1 [.int .i64 ((x:Int)-(y:Int)-(cc:Int)+10)] rfl rfl (Co _ _ _) (BU _ _) (by have:=HL.o;unfold maxLen;omega) (by have:=HL.o;omega) (by simp;omega) ?_;intro v2 w2 aa ad _)
    refine⟨⟨k+1,1,by omega,by go_num,by go_num,by omega,HS.o (x+10-y-cc) 1 _ w2 v2 (by omega) (by omega) (by omega) (by omega) aa ((HB.o.alloc (by omega) _).grown ad (by simp;omega) (fun b e=>(HO.o.lt b e).1))⟩,by simp only[intOf];omega⟩
   go_wp2_with (at_builtin;refine xx _ rfl _ _ 26 rfl w.heap.size 3 i0 (.int .i64 0) 1 8 Tryz.underlying26 hi af ag ah rfl (by decide) u5 ds.length (CW ds) rfl (HO.o.alloc _) ⟨wr.heap.size,0,none⟩ 1 1 [.int .i64 ((x:Int)-(y:Int)-(cc:Int))] rfl rfl (Co _ _ _) (BU _ _) (by have:=HL.o;unfold maxLen;omega) (by have:=HL.o;omega) (by simp;omega) ?_;intro v2 w2 aa ad _)
   refine⟨⟨k+1,0,by omega,by go_num,by go_num,by omega,HS.o (x-y-cc) 0 _ w2 v2 (by omega) (by omega) (by omega) (by omega) aa ((HB.o.alloc (by omega) _).grown ad (by simp;omega) (fun b e=>(HO.o.lt b e).1))⟩,by simp only[intOf];omega⟩
  obtain rfl:k=(num a).size:=by omega
  have hD:=W6 z2;rw[z1]at hD;have hv:=Qi z4 HA.o ae.o hD;have ct:=Fd wr u5 ds (z3.at (by intro h;rw[h]at z1;simp at z1;omega)) (by omega) (by omega) z2;rw[hv]at ct;replace z5:=zh z5;clear z1 z2 z3 z4 hv hD
  go_wp2_with fail
  refine ct.mono ?_;rintro e w1 ⟨rfl,hb⟩;have hB:=zh (z5.o.trans (hb.mono aj));clear hb ct;go_wp2;go_ret;exact⟨rfl,hB.o⟩
def RowI(w:World)(g:Nat)(zs:List Nat):Prop:=w.heap[g]? = some (.cells (CW zs).toArray 3 (0,0))
theorem RowI.lt{w:World}{g:Nat}{zs:List Nat}(h:RowI w g zs):g<w.heap.size:=(Array.getElem?_eq_some_iff.1 h).1
theorem RowI.frozen{w:World}{g:Nat}{zs:List Nat}(h:RowI w g zs)(i:Nat):w.frozen? ⟨g,i,none⟩=false:=by
 unfold RowI at h;simp[World.frozen?,h]
theorem RowI.cell{w:World}{g:Nat}{zs:List Nat}(h:RowI w g zs){i:Nat}(hi:i<zs.length):w.cell? ⟨g,i,none⟩=some (.int .i64 (lim zs i)):=by
 unfold RowI at h;simp only[World.cell?,h];simp[CW,lim,hi]
theorem RowI.set{w:World}{g:Nat}{zs:List Nat}(h:RowI w g zs)(i:Nat)(y:Nat):RowI (w.setCell ⟨g,i,none⟩ (.int .i64 (y:Int))) g (zs.set i y):=by
 unfold RowI at h ⊢;simp only[World.setCell,yz,h];simp[CW,List.map_set]
theorem Qk(n:Nat):madeCells #[.int .i64 0] n=(CW (List.replicate n 0)).toArray:=by
 unfold madeCells CW;apply Array.ext
 .simp
 intro i h1 h2;have e:i%1=0:=wC i;simp[e]
theorem RowI.made0(w:World)(n:Nat):RowI (w.alloc (.cells (madeCells #[.int .i64 0] n) 3)) w.heap.size (List.replicate n 0):=by
 unfold RowI;rw[yM,Qk]
theorem RowI.at{w:World}{g:Nat}{zs:List Nat}(h:RowI w g zs):NA w (.slice (some ⟨g,0,none⟩) zs.length zs.length) zs :=
 ⟨g,0,zs.length,rfl,h.lt,fun i hi=>by rw[yD];exact h.cell hi⟩
theorem IP(n:Nat)(hn:n<=1000000)(w:World):
 (Instr.makeSlice 26 (.int .i64 (n:Int)) (.int .i64 (n:Int))).run Tryz.prog w =
   .ok (.slice (some ⟨w.heap.size,0,none⟩) n n) (w.alloc (.cells (madeCells #[.int .i64 0] n) 3)) :=
 wV 26 3 (.int .i64 0) 8 Tryz.underlying26 GZ rfl .i64 .i64 n (by omega) (by omega) w
theorem Hg(n i:Nat)(w:World)(hs:(num n).size<=140737488355328)(hi:i<=140737488355328):
 Calls Tryz.prog 131 #[.string (num n),.int .i64 (i:Int)] w fun e w'=>e=.returned (.int .i64 ((n/10^i%10:Nat):Int))/\w'=w :=
 (Er n i w hs hi).mono fun _ _ h=>⟨h.1,h.2.symm⟩
def TOut(w:World)(a b L g i:Nat)(wr:World):Prop :=
 ∃zs,zs.length=L/\RowI wr g zs/\(∀p,lim zs p<=81*i)/\dv zs=(a%10^i)*b/\Below w.heap.size w wr
def TIn(w:World)(a b L g i j:Nat)(wr:World):Prop :=
 ∃zs,zs.length=L/\RowI wr g zs/\(∀p,lim zs p<=81*(i+1))/\(∀p,i+j<=p->lim zs p<=81*i)/\dv zs=(a%10^i)*b+10^i*((a/10^i%10)*(b%10^j))/\Below w.heap.size w wr
theorem TOut.start{w wr:World}{a b L g i:Nat}(h:TOut w a b L g i wr):TIn w a b L g i 0 wr:=by
 obtain⟨zs,h1,h2,h3,h4,h5⟩:=h;exact⟨zs,h1,h2,fun p=>by have:=h3 p;omega,fun p _=>h3 p,by simp[h4,Nat.mod_one],h5⟩
theorem TIn.done{w wr:World}{a b L g i:Nat}(h:TIn w a b L g i (num b).size wr):TOut w a b L g (i+1) wr:=by
 obtain⟨zs,h1,h2,h3,h4,h5,h6⟩:=h;refine⟨zs,h1,h2,h3,?_,h6⟩;rw[h5,LJ (zA _),Cg,yF,zr]
theorem TIn.at{w wr:World}{a b L g i j:Nat}(h:TIn w a b L g i j wr)(hl:i+j<L):
 ∃z:Nat,z<=81*i/\wr.cell? ⟨g,i+j,none⟩=some (.int .i64 (z:Int))/\wr.frozen? ⟨g,i+j,none⟩=false:=by
 obtain⟨zs,h1,h2,h3,h4,h5,h6⟩:=h;exact⟨lim zs (i+j),h4 _ (zA _),h2.cell (by omega),h2.frozen _⟩
theorem TIn.step{w wr:World}{a b L g i j:Nat}(h:TIn w a b L g i j wr)(hl:i+j<L)(hg:w.heap.size<=g){z x y:Nat}{d:Int}(hz:wr.cell? ⟨g,i+j,none⟩=some (.int .i64 (z:Int)))
 (hx:x=a/10^i%10)(hy:y=b/10^j%10)(hd:d=((z+x*y:Nat):Int)):TIn w a b L g i (j+1) (wr.drew.setCell ⟨g,i+j,none⟩ (.int .i64 d)):=by
 subst hd;obtain⟨zs,h1,h2,h3,h4,h5,h6⟩:=h;have hc:=h2.cell (i:=i+j) (by omega);rw[hz]at hc;have ad:z=lim zs (i+j):=by simp at hc;omega
 have ae:x*y<=9*9:=xi (by omega) (by omega);have af:=h4 (i+j) (zA _);have aa:RowI wr.drew g zs:=h2;refine⟨zs.set (i+j) (z+x*y),by simpa using h1,aa.set _ _,fun p=>?_,fun p hp=>?_,?_,h6.drew.setCell hg _⟩
 .by_cases e:p=i+j
  .subst e;rw[Hp _ _ _ (by omega)];omega
  rw[Bm _ _ _ _ e];exact h3 p
 .rw[Bm _ _ _ _ (by omega)];exact h4 p (by omega)
 have hs:=Kx zs (i+j) (z+x*y) (by omega);rw[<-ad,yT]at hs;rw[Cg b j,<-hy,<-hx,yT,yT];have e:10^(i+j)*(x*y)=10^i*(x*(10^j*y)):=by rw[xU,zr,Nat.mul_left_comm (10^j)]
 rw[<-hx]at h5;omega
def TCar(w:World)(a b L g i:Nat)(wr:World):Prop :=
 ∃zs,zs.length=L/\RowI wr g zs/\(∀p,p<i->lim zs p<10)/\lim zs i<=900000/\(∀p,i<p->lim zs p<=810000)/\dv zs=a*b/\Below w.heap.size w wr
theorem TOut.car{w wr:World}{a b L g:Nat}(h:TOut w a b L g (num a).size wr)(ha:(num a).size<=10000):TCar w a b L g 0 wr:=by
 obtain⟨zs,h1,h2,h3,h4,h5⟩:=h;exact⟨zs,h1,h2,fun p hp=>absurd hp (by omega),by have:=h3 0;omega,fun p _=>by have:=h3 p;omega,by rw[h4,LJ (zA _)],h5⟩
theorem TCar.at{w wr:World}{a b L g i:Nat}(h:TCar w a b L g i wr)(hl:i+1<L):
 ∃z y:Nat,z<=900000/\y<=810000/\wr.cell? ⟨g,i,none⟩=some (.int .i64 (z:Int))/\wr.cell? ⟨g,i+1,none⟩=some (.int .i64 (y:Int))/\wr.frozen? ⟨g,i,none⟩=false/\wr.frozen? ⟨g,i+1,none⟩=false:=by
 obtain⟨zs,h1,h2,h3,h4,h5,h6,h7⟩:=h;exact⟨lim zs i,lim zs (i+1),h4,h5 _ (by omega),h2.cell (by omega),h2.cell (by omega),h2.frozen _,h2.frozen _⟩
theorem TCar.step{w wr:World}{a b L g i:Nat}(h:TCar w a b L g i wr)(hl:i+1<L)(hg:w.heap.size<=g){z y:Nat}{d1 d2:Int}(hz:wr.cell? ⟨g,i,none⟩=some (.int .i64 (z:Int)))(hy:wr.cell? ⟨g,i+1,none⟩=some (.int .i64 (y:Int)))
 (e1:d1=((y+z/10:Nat):Int))(e2:d2=((z%10:Nat):Int)):TCar w a b L g (i+1) ((wr.drew.setCell ⟨g,i+1,none⟩ (.int .i64 d1)).setCell ⟨g,i,none⟩ (.int .i64 d2)):=by
 subst e1 e2;obtain⟨zs,h1,h2,h3,h4,h5,h6,h7⟩:=h;have hc:=h2.cell (i:=i) (by omega);rw[hz]at hc;have ae:z=lim zs i:=by simp at hc;omega
 have d:=h2.cell (i:=i+1) (by omega);rw[hy]at d;have ad:y=lim zs (i+1):=by simp at d;omega
 have aa:RowI wr.drew g zs:=h2;have hb:=h5 (i+1) (by omega);refine⟨(zs.set (i+1) (y+z/10)).set i (z%10),by simpa using h1,(aa.set _ _).set _ _,fun p hp=>?_,?_,fun p hp=>?_,?_,(h7.drew.setCell hg _).setCell hg _⟩
 .by_cases e:p=i
  .subst e;rw[Hp _ _ _ (by simp;omega)];omega
  rw[Bm _ _ _ _ e,Bm _ _ _ _ (by omega)];exact h3 p (by omega)
 .rw[Bm _ _ _ _ (by omega),Hp _ _ _ (by omega)];omega
 .rw[Bm _ _ _ _ (by omega),Bm _ _ _ _ (by omega)];exact h5 p (by omega)
 have s1:=Kx zs (i+1) (y+z/10) (by omega);have s2:=Kx (zs.set (i+1) (y+z/10)) i (z%10) (by simp;omega);rw[Bm _ _ _ _ (by omega),<-ae]at s2;rw[<-ad,zu]at s1;rw[<-h6];generalize 10^i=P at s1 s2;have e3:P*z=P*(z%10)+P*10*(z/10):=by rw[zr,<-yT,Nat.mod_add_div]
 rw[yT]at s1;omega
theorem TCar.end{w wr:World}{a b L g:Nat}(h:TCar w a b (L+1) g L wr)(hL:a*b<10^L):∃zs,zs.length=L+1/\RowI wr g zs/\(∀d∈zs,d<10)/\dv zs=a*b/\Below w.heap.size w wr:=by
 obtain⟨zs,h1,h2,h3,h4,h5,h6,h7⟩:=h;refine⟨zs,h1,h2,fun d hd=>?_,h6,h7⟩;obtain⟨p,hp,rfl⟩:=zo hd;rw[<-DR _ _ hp]
 by_cases e:p<L
 .exact h3 p e
 obtain rfl:p=L:=by omega
 have h8:=Wz zs p hp
 rcases yr (lim zs p) with h0|h0
 .omega
 have:10^p*1<=10^p*lim zs p:=yE _ h0;omega
theorem LN(a b:Nat)(w:World)(ha:(num a).size<=9)(hb:(num b).size<=9):
 Calls Tryz.prog 80 #[.string (num a),.string (num b)] w fun e w'=>e=.returned (.string (num (a*b)))/\w=w':=by
 have h1:=W7 ha;have h2:=W7 hb;have hp:a*b<=999999999*999999999:=xi (by omega) (by omega);have c1:=Dw a w (by omega);have c2:=Dw b w (by omega);have c3:=DP (a*b) w (by omega);have e:((a*b:Nat):Int)=(a:Int)*(b:Int):=xC _ _;have h:(a:Int)*(b:Int)<=999999998000000001:=by rw[<-e];omega
 have d:0<=(a:Int)*(b:Int):=by rw[<-e];omega
 rw[e]at c3;clear e hp;go_enter Tryz.func80,Tryz.ntmps80
 go_wp2_with fail
 refine c1.mono ?_;rintro e w1 ⟨rfl,rfl⟩
 go_wp2_with fail
 refine c2.mono ?_;rintro e w1 ⟨rfl,rfl⟩
 go_wp2_with fail
 refine c3.mono ?_;rintro e w1 ⟨rfl,rfl⟩;go_wp2;go_ret;exact⟨rfl,rfl⟩
theorem Ql(a b:Nat)(w:World)(ha:(num a).size<=10000)(hb:(num b).size<=10000)(ae:¬((num a).size<=9/\(num b).size<=9)):
 Calls Tryz.prog 80 #[.string (num a),.string (num b)] w fun e w'=>e=.returned (.string (num (a*b)))/\Below w.heap.size w w':=by
 have h:=IP ((num a).size+(num b).size+1) (by omega);rw[yq,yq,Int.natCast_one]at h
 have HL:Hid (a*b<10^((num a).size+(num b).size)):=by
  unfold Hid;rw[xU];exact x8 (B0 a) (B0 b)
 have ag:9<(num a).size\/((num a).size<=9/\9<(num b).size):=by omega
 clear ae
 rcases ag with af|⟨af,an⟩
 all_goals
  go_enter Tryz.func80,Tryz.ntmps80;go_wp2
  go_loopw [6] (fun i wr=>∃k:Nat,k<=(num a).size/\i=.int .i64 (k:Int)/\TOut w a b ((num a).size+(num b).size+1) w.heap.size k wr) (fun i _=>(num a).size-(intOf i).toNat)
  case atStart=>exact⟨0,zP _,rfl,List.replicate ((num a).size+(num b).size+1) 0,by simp,RowI.made0 _ _,fun p=>by rw[Ea];omega,by rw[Th];simp[Nat.mod_one],(zI _ _).alloc (zA _) _⟩
  case round=>
   obtain⟨k,hk,rfl,hrel⟩:=hrel
   by_cases hkn:k<(num a).size
   .have HR:=zh hrel;clear hrel h;go_wp2;obtain⟨wo,rfl⟩:∃wo:World,wo=wr:=⟨_,rfl⟩
    go_loopw [7] (fun j wr=>∃q:Nat,q<=(num b).size/\j=.int .i64 (q:Int)/\TIn w a b ((num a).size+(num b).size+1) w.heap.size k q wr) (fun j _=>(num b).size-(intOf j).toNat)
    case atStart=>exact⟨0,zP _,rfl,HR.o.start⟩
    case round=>
     obtain⟨q,hq,rfl,hrel⟩:=hrel
     by_cases hqn:q<(num b).size
     .obtain⟨z,hz,aa,ak⟩:=hrel.at (by omega);obtain⟨x,hx⟩:∃x,x=a/10^k%10:=⟨_,rfl⟩;obtain⟨y,hy⟩:∃y,y=b/10^q%10:=⟨_,rfl⟩;have cx:=fun W=>Hg a k W (by omega) (by omega);have cy:=fun W=>Hg b q W (by omega) (by omega);rw[<-hx]at cx;rw[<-hy]at cy;have ao:x<10:=by omega
      have aq:y<10:=by omega
      have ai:x*y<=9*9:=xi (by omega) (by omega);have exy:((x*y:Nat):Int)=(x:Int)*(y:Int):=xC _ _;have am:(x:Int)*(y:Int)<=81:=by rw[<-exy];omega
      have al:0<=(x:Int)*(y:Int):=by rw[<-exy];omega
      have HS:=zh (fun d hd=>hrel.step (d:=d) (by omega) (zA _) aa hx hy hd);have s1:IntKind.i64.wrap ((k:Int)+(q:Int))=(k:Int)+(q:Int):=xV _ (by omega);have s2:(0:Int)<=(k:Int)+(q:Int):=by omega
      have s3:(k:Int)+(q:Int)<((num a).size:Int)+((num b).size:Int)+1:=by omega
      have s4:((k:Int)+(q:Int)).toNat=k+q:=by omega
      have s5:IntKind.i64.wrap ((x:Int)*(y:Int))=(x:Int)*(y:Int):=xV _ (by omega);have s6:IntKind.i64.wrap ((z:Int)+(x:Int)*(y:Int))=(z:Int)+(x:Int)*(y:Int):=xV _ (by omega);clear hx hy hrel ai exy HR;go_wp2;refine wp_region_still_tail 15 (by kernel_rfl) (by kernel_rfl) ?_;simp only[List.take_succ_cons,wJ,List.drop_succ_cons,List.drop_zero]
      repeat still_step
      still_call (cx _)
      repeat still_step
      still_call (cy _)
      repeat still_step
      refine wpStill_nil ?_;change wpList _ _ _ _ _ wr.drew;go_wp2;exact⟨⟨q+1,by omega,by go_num,HS.o _ (by simp)⟩,by simp only[intOf];omega⟩
     obtain rfl:q=(num b).size:=by omega
     have HT:=zh hrel.done;clear hrel HR;go_wp2;exact⟨⟨k+1,by omega,by go_num,HT.o⟩,by simp only[intOf];omega⟩
   obtain rfl:k=(num a).size:=by omega
   have HT:=zh (hrel.car ha);clear hrel h;go_wp2
   go_loopw [8] (fun i wr=>∃k:Nat,k<=(num a).size+(num b).size/\i=.int .i64 (k:Int)/\TCar w a b ((num a).size+(num b).size+1) w.heap.size k wr) (fun i _=>(num a).size+(num b).size-(intOf i).toNat)
   case atStart=>exact⟨0,zP _,rfl,HT.o⟩
   case round=>
    obtain⟨k,hk,rfl,hrel⟩:=hrel
    by_cases hkn:k<(num a).size+(num b).size
    .obtain⟨z,y,hz,hy,aa,aj,ak,ar⟩:=hrel.at (by omega);have HS:=zh (fun d1 d2 e1 e2=>hrel.step (d1:=d1) (d2:=d2) (by omega) (zA _) aa aj e1 e2);have s1:IntKind.i64.wrap ((k:Int)+1)=(k:Int)+1:=xV _ (by omega);have s2:(0:Int)<=(k:Int)+1:=by omega
     have s3:(k:Int)<((num a).size:Int)+((num b).size:Int):=by omega
     have s4:((k:Int)+1).toNat=k+1:=by omega
     have s8:(k:Int)<((num a).size:Int)+((num b).size:Int)+1:=by omega
     have s5:(z:Int).tdiv 10=((z/10:Nat):Int):=by rw[Int.tdiv_eq_ediv_of_nonneg (by omega)];rfl
     have s6:IntKind.i64.wrap ((z/10:Nat):Int)=((z/10:Nat):Int):=xV _ (by omega);have s7:IntKind.i64.wrap ((y:Int)+((z/10:Nat):Int))=(y:Int)+((z/10:Nat):Int):=xV _ (by omega);clear hrel HT;go_wp2;refine wp_region_still_tail 12 (by kernel_rfl) (by kernel_rfl) ?_;simp only[List.take_succ_cons,wJ,List.drop_succ_cons,List.drop_zero]
     repeat still_step
     refine wpStill_nil ?_;change wpList _ _ _ _ _ wr.drew;go_wp2;exact⟨⟨k+1,by omega,by go_num,HS.o _ _ (by omega) (by omega)⟩,by simp only[intOf];omega⟩
    obtain rfl:k=(num a).size+(num b).size:=by omega
    obtain⟨zs,z1,z2,z3,z4,z5⟩:=hrel.end HL.o;have ad:=z2.at;have ct:=Fd wr _ zs ad (by omega) (by omega) z3;rw[z1,z4]at ct;have ah:=z5.size;replace z5:=zh z5;clear hrel HT z1 z2 z3 z4 ad
    go_wp2_with fail
    refine ct.mono ?_;rintro e w1 ⟨rfl,hb⟩;have hB:=zh (z5.o.trans (hb.mono ah));clear hb ct;go_wp2;go_ret;exact⟨rfl,hB.o⟩
theorem Qm(a b:Nat)(w:World)(ha:(num a).size<=10000)(hb:(num b).size<=10000):
 Calls Tryz.prog 80 #[.string (num a),.string (num b)] w fun e w'=>e=.returned (.string (num (a*b)))/\Below w.heap.size w w':=by
 by_cases h:(num a).size<=9/\(num b).size<=9
 .refine(LN a b w h.1 h.2).mono ?_;rintro e w' ⟨rfl,rfl⟩;exact⟨rfl,zI _ _⟩
 exact Ql a b w ha hb h
theorem Gl:num 0=⟨#[48]⟩:=JP [48] 0 (by decide) (by decide)
theorem Qn(a b:Nat)(w:World)(ha:(num a).size<=10000)(hb:(num b).size<=10000)(h:a<b):
 Calls Tryz.prog 78 #[.string (num a),.string (num b)] w fun e w'=>e=.returned (.tuple #[.string (num (a/b)),.string (num (a%b))])/\w=w':=by
 have c1:=Fr a b w (by omega) (by omega);rw[Cy h]at c1;have HV:Hid (num (a/b)=⟨#[48]⟩/\num (a%b)=num a):=⟨by rw[vk h,Gl],by rw[xr h]⟩;clear h;go_enter Tryz.func78,Tryz.ntmps78
 go_wp2_with fail
 refine c1.mono ?_;rintro e w1 ⟨rfl,rfl⟩;go_wp2;go_ret2;exact⟨by rw[HV.o.1,HV.o.2];rfl,rfl⟩
theorem Ky{a b:Nat}(h:b<=a):∃c:Int,c=Bp a b/\0<=c/\c<=1:=by
 refine⟨_,rfl,?_⟩;unfold Bp;rw[zF (by omega)]
 split<;>omega
theorem NE(a b:Nat)(w:World)(ha:(num a).size<=18)(d:b≠0)(h:b<=a):
 Calls Tryz.prog 78 #[.string (num a),.string (num b)] w fun e w'=>e=.returned (.tuple #[.string (num (a/b)),.string (num (a%b))])/\w=w':=by
 have hb:=Et h;have h1:=To ha;have c1:=Fr a b w (by omega) (by omega);obtain⟨c,hc,aa,ad⟩:=Ky h;rw[<-hc]at c1;have v1:=Dw a w ha;have v2:=Dw b w (by omega);have hq:=xo a b;have hr:a%b<b:=wI _ (by omega);have d1:=DP (a/b) w (by omega);have d2:=DP (a%b) w (by omega);rw[vJ]at d1;rw[vI]at d2;have hz:((b:Int)==0)=false:=by rw[zM];omega
 have hw:wrap64 ((a:Int)/(b:Int))=(a:Int)/(b:Int):=by
  have e:(a:Int)/(b:Int)=((a/b:Nat):Int):=by simp
  rw[e];generalize a/b=q at hq;exact IntWalk.wrap64_in _ ⟨by omega,by omega⟩
 clear hc hq hr;replace d:=zh d;go_enter Tryz.func78,Tryz.ntmps78
 go_wp2_with fail
 refine c1.mono ?_;rintro e w1 ⟨rfl,rfl⟩
 go_wp2_with fail
 refine v1.mono ?_;rintro e w1 ⟨rfl,rfl⟩
 go_wp2_with fail
 refine v2.mono ?_;rintro e w1 ⟨rfl,rfl⟩
 go_wp2_with fail
 refine d1.mono ?_;rintro e w1 ⟨rfl,rfl⟩
 go_wp2_with fail
 refine v1.mono ?_;rintro e w1 ⟨rfl,rfl⟩
 go_wp2_with fail
 refine v2.mono ?_;rintro e w1 ⟨rfl,rfl⟩
 go_wp2_with fail
 refine d2.mono ?_;rintro e w1 ⟨rfl,rfl⟩;go_wp2;go_ret2;exact⟨rfl,rfl⟩
def UY(w:World)(a b i:Nat)(v:Value)(s:ByteArray)(wr:World):Prop :=
 ∃ qs:List UInt8,(∀c∈qs,AH c)/\(∀c∈s.data.toList,AH c)/\s.size<=20000/\qs.length<=i/\A4 ((num a).data.toList.take i)=A4 qs*b+val s/\val s<b /\
  (i+1=(num b).size\/(s=num (val s)/\qs≠[]))/\OwnB w.heap.size wr v qs/\Below w.heap.size w wr
def VN(w:World)(R b:Nat)(qs:List UInt8)(v:Value)(t r:Nat)(wr:World):Prop:=r+t*b=R/\OwnB w.heap.size wr v qs/\Below w.heap.size w wr
theorem Qo{s a:ByteArray}{i:Nat}(hi:i<a.size)(hs:∀c∈s.data.toList,AH c)(ha:∀c∈a.data.toList,AH c):
 (s++a.extract i (i+1)).data.toList=s.data.toList++[a[i]]/\(∀c∈(s++a.extract i (i+1)).data.toList,AH c)/\(s++a.extract i (i+1)).size=s.size+1:=by
 have e:(s++a.extract i (i+1)).data.toList=s.data.toList++[a[i]]:=by
  rw[ByteArray.toList_data_append,Lib.extract_data,show i+1-i=1 by omega]
  congr 1
  rw[xQ (by simpa using hi)];rfl
 refine⟨e,fun c hc=>?_,?_⟩
 .rw [e]at hc
  rcases List.mem_append.1 hc with h|h
  .exact hs c h
  simp at h;subst h
  exact ha _ (by
   have:a[i]=a.data.toList[i]'(by simpa using hi):=rfl;rw[this];exact zN _)
 rw[x7,e];simp
theorem Tq(a b:Nat)(d:b≠0):
 ((num a).extract 0 ((num b).size-1)).data.toList=(num a).data.toList.take ((num b).size-1)/\A4 ((num a).data.toList.take ((num b).size-1))<b:=by
 constructor
 .rw[Lib.extract_data];simp
 have h1:=Gs (l:=(num a).data.toList) (by rw[Bo];exact A6 a) ((num b).size-1);have hp:=Gt b
 by_cases hs:(num b).size-1=0
 .rw[hs]at h1 ⊢;simp only[wJ,EK];omega
 have h2:¬b<10^((num b).size-1):=fun hc=>by
  have:=AJ hc (by omega);rw[<-BQ]at this;omega
 omega
theorem Tr{A Q S b c t r:Nat}(h1:A=Q*b+S)(h2:r+t*b=S*10+c):A*10+c=(Q*10+t)*b+r:=by
 rw[h1,yF,yF,zr,zr,zn b 10];omega
theorem W8{S b c:Nat}(h1:S<b)(h2:c<=9):S*10+c<10*b:=by omega
theorem Ts{t r b R:Nat}(h:r+t*b=R)(hR:R<10*b)(hr:b<=r):t+1<=9/\(r-b)+(t+1)*b=R:=by
 have e:(t+1)*b=t*b+b:=Nat.succ_mul t b;refine⟨?_,by omega⟩
 rcases wP t 9 with h9|h9
 .omega
 have:9*b<=t*b:=yG _ h9;omega
theorem Tt{a b Q S:Nat}(h:a=Q*b+S)(hs:S<b):Q=a/b/\S=a%b:=by
 subst h;constructor
 .rw[Nat.add_comm,Nat.add_mul_div_right _ _ (by omega),vk hs,yD]
 rw[Nat.add_comm,Nat.add_mul_mod_self_right,xr hs]
theorem Tu(a b:Nat)(w:World)(ha:(num a).size<=9000)(aF:18<(num a).size)(aj:b≠0)(h:b<=a):
 Calls Tryz.prog 78 #[.string (num a),.string (num b)] w fun e w'=>e=.returned (.tuple #[.string (num (a/b)),.string (num (a%b))])/\Below w.heap.size w w':=by
 obtain⟨i0,hi,aw,ax,ay⟩:=vO UX;have hb:=Et h;have aI:=Gt b;have c1:=Fr a b w (by omega) (by omega);obtain⟨c,hc,aA,aB⟩:=Ky h;rw[<-hc]at c1;have aG:((num b).size:Int)-1=(((num b).size-1:Nat):Int):=by omega
 have aH:(num b).size-1<=(num a).size:=by omega
 have HS:=zh (Tq a b aj);have HD:Hid (∀c∈(num a).data.toList,AH c):=by unfold Hid;rw[Bo];exact A6 a
 have HV:Hid (A4 ((num a).data.toList.take (num a).size)=a):=by
  unfold Hid;rw[yK (by rw[BQ,Bo];exact zA _),Bo,At]
 replace aj:=zh aj;clear hc h;go_enter Tryz.func78,Tryz.ntmps78
 go_wp2_with fail
 refine c1.mono ?_;rintro e w1 ⟨rfl,rfl⟩;clear c1
 go_wp2_with (at_make;refine wpList_make_own _ rfl _ _ 145 rfl w.heap.size 5 i0 (.int .u8 0) 1 Tryz.underlying145 hi aw ax _ _ _ (num a).size rfl rfl (by omega) (by rw[ay];omega) (by unfold maxLen;omega) (zA _) ?_;intro w1 ad ag)
 have h0:OwnB w.heap.size w1 (.slice (some ⟨w.heap.size,0,none⟩) 0 (num a).size) []:=ad;have af:Below w.heap.size w w1:=(zI _ _).grown ag (zA _) (fun k e=>by cases e);replace h0:=zh h0;replace af:=zh af;clear ad ag
 go_loopw [6,7,8] (fun v r i wr=>∃(k:Nat)(s:ByteArray),(num b).size<=k+1/\k<=(num a).size/\i=.int .i64 (k:Int)/\r=.string s/\UY w a b k v s wr) (fun _ _ i _=>(num a).size-(intOf i).toNat)
 case atStart=>
  refine⟨(num b).size-1,_,by omega,by omega,rfl,rfl,[],fun _ h=>absurd h (by simp),?_,?_,by simp,?_,?_,.inl (by omega),h0.o,af.o⟩
  .rw[HS.o.1];exact fun c hc=>HD.o c (yO hc)
  .rw[x7,HS.o.1];simp;omega
  .unfold val;rw[HS.o.1];simp[A4]
  .unfold val;rw[HS.o.1];exact HS.o.2
 case round=>
  obtain⟨k,s,aJ,hk,rfl,rfl,qs,z1,z2,z3,z4,z5,z6,z7,z8,z9⟩:=hrel;clear h0 af;have au:=z9.size
  by_cases hlt:k<(num a).size
  .have am:=Qo hlt z2 HD.o;have ct:=Fa (s++(num a).extract k (k+1)) wr (by omega) (by omega) am.2.1;obtain⟨c,hc⟩:∃c,c=(num a)[k].toNat-48:=⟨_,rfl⟩
   have aq:AH ((num a)[k]):=HD.o _ (by
    have:(num a)[k]=(num a).data.toList[k]'(by simpa using hlt):=rfl;rw[this];exact zN _)
   have aC:c<=9:=by have:=aq.2;omega
   have hR:A4 (s++(num a).extract k (k+1)).data.toList=val s*10+c:=by
    rw[am.1,Bv,hc];simp[A4,val]
   rw[hR]at ct;have hA:=EZ (num a) k hlt;rw[<-hc]at hA;have ai:=W8 z6 aC;obtain⟨R,ah⟩:∃R,R=val s*10+c:=⟨_,rfl⟩;rw[<-ah]at ct ai
   have HN:Hid (∀(t r:Nat) (d:Int) v2 w2,r+t*b=R->r<b->t<=9->d=48+(t:Int)->w2.ownsRow w.heap.size 5 1 v2 (qs.length+1) (Lib.byteCells qs++[Value.int .u8 d])->Below w.heap.size w w2->(num r).size<=20000->UY w a b (k+1) v2 (num r) w2):=by
    intro t r d v2 w2 h1 h2 h3 h4 ho az av;refine⟨qs++[UInt8.ofNat (48+t)],?_,by rw[Bo];exact A6 r,av,by simp;omega,?_,by rw[Bc];exact h2,.inr ⟨by rw[Bc],by simp⟩,?_,az⟩
    .intro x hx
     rcases List.mem_append.1 hx with h|h
     .exact z1 x h
     simp at h;subst h;unfold AH;have:=Ba t (by omega);rw[show (48+UInt8.ofNat t:UInt8)=UInt8.ofNat (48+t) from by simp] ;omega
    .rw [hA,Bv,Bc]
     have e:A4 [UInt8.ofNat (48+t)]=t:=by
      have:=Ba t (by omega);simp only[A4,wk,vD];omega
     rw[e];simp only[ze,yQ];exact Tr z5 (by rw[h1,ah])
    unfold OwnB;rw[<-IA,zX,Ba t (by omega)];have e:((48+t:Nat):Int)=d:=by omega
    rw[e];exact ho
   have HO:Hid (OwnB w.heap.size wr u6 qs):=z8;have HB:=zh z9;have HL:Hid (qs.length<=k):=z4;have HR:=zh ai;clear z1 z2 z4 z5 z6 z7 z8 z9 am hR hA ai aq hc ah;have aK:((k:Int)+1).toNat=k+1:=by omega
   go_wp2_with fail
   refine ct.mono ?_;rintro e w2 ⟨rfl,rfl⟩;clear ct;go_wp2;obtain⟨wo,rfl⟩:∃wo:World,wo=wr:=⟨_,rfl⟩
   go_loopw [7,9] (fun r d wr=>∃t r':Nat,t<=9/\r=.string (num r')/\d=.int .u8 (48+(t:Int))/\VN w R b qs u6 t r' wr) (fun _ d _=>57-(intOf d).toNat)
   case atStart=>exact⟨0,R,by omega,rfl,rfl,by simp,HO.o,HB.o⟩
   case round=>
    obtain⟨t,r',ht,rfl,rfl,y1,y2,y3⟩:=hrel
    have aE:(num r').size<=10000:=by
     have h1:=Et (show r'<=R by omega);have h2:=HR.o
     have h3:(num R).size<=(num b).size+1:=by
      rw[BQ];refine AJ ?_ (by omega);have:=B0 b;rw[zu];omega
     omega
    have cm:=Qj r' b wr aE;have co:=Fr r' b wr (by omega) (by omega);have au:=y3.size;replace y1:=zh y1;replace y3:=zh y3
    by_cases hlt2:r'<b
    .rw[Cy hlt2]at co;have HQ:Hid (wr.ownsRow w.heap.size 5 1 u6 qs.length (Lib.byteCells qs)):=y2;replace hlt2:=zh hlt2;clear y2 cm
     go_wp2_with fail
     refine co.mono ?_;rintro e w2 ⟨rfl,rfl⟩;clear co
     go_wp2_with (at_builtin;refine xx _ rfl _ _ 145 rfl w.heap.size 5 i0 (.int .u8 0) 1 1 Tryz.underlying145 hi aw ax ay rfl (by decide) u6 qs.length (Lib.byteCells qs) rfl (HQ.o.alloc _) ⟨wr.heap.size,0,none⟩ 1 1 [.int .u8 (48+(t:Int))] rfl rfl (Co _ _ _) (BU _ _) (by have:=HL.o;unfold maxLen;omega) (by have:=HL.o;omega) (by simp;omega) ?_;intro v2 w2 an ar _)
     exact⟨⟨k+1,num r',by omega,by omega,by go_num,rfl,HN.o t r' _ v2 w2 y1.o hlt2.o ht rfl an ((y3.o.alloc (by omega) _).grown ar (by simp;omega) (fun b e=>(HQ.o.lt b e).1)) (by omega)⟩,by simp only[intOf];omega⟩
    have al:b<=r':=by omega
    obtain⟨c,hc,aA,aB⟩:=Ky al;rw[<-hc]at co;have aa:=zh (Ts y1.o HR.o al);have cm:=cm al;replace y2:=zh y2;clear hc hlt2
    go_wp2_with fail
    refine co.mono ?_;rintro e w2 ⟨rfl,rfl⟩;clear co
    go_wp2_with fail
    refine cm.mono ?_;rintro e w2 ⟨rfl,ae⟩;replace ae:=zh ae;clear cm;go_wp2;refine⟨⟨t+1,r'-b,aa.o.1,rfl,by go_num,aa.o.2,y2.o.below ae.o,y3.o.trans (ae.o.mono au)⟩,?_⟩;have:=aa.o.1;simp only[intOf];omega
  obtain rfl:k=(num a).size:=by omega
  have ao:s=num (val s)/\qs≠[]:=by
   rcases z7 with h|h
   .omega
   exact h
  have ak:=Tt (a:=a) (by rw[<-z5];exact HV.o.symm) z6;have ht:=z8.text;have aD:0<qs.length:=List.length_pos_iff.2 ao.2;have ct:=Fa ⟨qs.toArray⟩ wr (by simp[ByteArray.size];omega) (by simp[ByteArray.size];omega) (by simpa using z1);have e:(⟨qs.toArray⟩:ByteArray).data.toList=qs:=rfl;rw[e,ak.1]at ct;have HF:Hid (s=num (a%b)):=by unfold Hid;rw[<-ak.2];exact ao.1
  have HB:=zh z9;clear z1 z2 z4 z5 z6 z7 z8 z9 ao ak aD e
  go_wp2_with fail
  refine ct.mono ?_;rintro e w2 ⟨rfl,rfl⟩;go_wp2;go_ret2;exact⟨by rw[HF.o];rfl,HB.o⟩
theorem LO(a b:Nat)(w:World)(ha:(num a).size<=9000)(hb:(num b).size<=9000)(d:b≠0):
 Calls Tryz.prog 78 #[.string (num a),.string (num b)] w fun e w'=>e=.returned (.tuple #[.string (num (a/b)),.string (num (a%b))])/\Below w.heap.size w w':=by
 rcases wP a b with h|h
 .refine(Qn a b w (by omega) (by omega) h).mono ?_;rintro e w' ⟨rfl,rfl⟩;exact⟨rfl,zI _ _⟩
 by_cases h18:(num a).size<=18
 .refine(NE a b w h18 d h).mono ?_;rintro e w' ⟨rfl,rfl⟩;exact⟨rfl,zI _ _⟩
 exact Tu a b w ha (by omega) d h
def VO(G:Nat)(w:World)(g:Nat)(v u:Value)(wr:World):Prop :=
 ∃k:Nat,v=.string (num k)/\u=.string (num g)/\Nat.gcd k g=G/\(num k).size<=9000/\(num g).size<=9000/\Below w.heap.size w wr
theorem Hh(g:Nat):((num g).toList==[48])=decide (g=0):=by
 rw[yR,Bo,wO,xF,xt];constructor
 .intro e;have:=congrArg A4 e;rw[At]at this;rw[this];rfl
 intro e;subst e;rw[vA (by omega)];rfl
theorem NF(a b:Nat)(w:World)(ha:(num a).size<=9000)(hb:(num b).size<=9000):
 Calls Tryz.prog 77 #[.string (num a),.string (num b)] w fun e w'=>e=.returned (.string (num (Nat.gcd a b)))/\Below w.heap.size w w':=by
 go_enter Tryz.func77,Tryz.ntmps77;go_wp2
 go_loopg [0,1] b (fun g v u wr=>VO (Nat.gcd a b) w g v u wr)
 case atStart=>exact⟨a,rfl,rfl,rfl,ha,hb,zI _ _⟩
 case round=>
  obtain⟨k,rfl,rfl,h3,h4,h5,h6⟩:=hrel;have h:=h6.size;have hz:=Hh gk
  by_cases hg:gk=0
  .rw[zH hg]at hz;have HF:Hid (num k=num (Nat.gcd a b)):=by unfold Hid;rw[<-h3,hg,Nat.gcd_zero_right]
   replace h6:=zh h6;clear h3 hg;go_wp2;go_ret;exact⟨Gq HF.o,h6.o⟩
  rw[zD hg]at hz;have hc:=LO k gk wr h4 h5 hg;replace h3:=zh h3;replace h6:=zh h6;replace hg:=zh hg
  go_wp2_with fail
  refine hc.mono ?_;rintro e w2 ⟨rfl,d⟩;replace d:=zh d;clear hc;go_wp2
  go_roundg (k%gk)
  case measure=>exact wI _ (by have:=hg.o;omega)
  case rel=>
   refine⟨gk,rfl,rfl,?_,h5,?_,h6.o.trans (d.o.mono h)⟩
   .rw[<-h3.o,vZ gk,<-Nat.gcd_rec,vZ]
   exact zS (Et (xA (wI k (by have:=hg.o;omega)))) h5
theorem AZ{n:Nat}(h:n<Lim):(num n).size<=300:=by
 have:=AJ (k:=mxd) h (by rw[CC];omega);rw[BQ,<-CC];exact this
theorem VP(a b:Nat)(w:World)(ha:a<Lim)(hb:b<Lim)(h:(num (a+b)).size<=1000):
 Calls Tryz.prog 103 #[.string (num a),.string (num b)] w fun e w'=>e=.returned (.tuple #[.string (Ft (a+b)),.int .i64 (Fu (a+b))])/\Below w.heap.size w w':=by
 have c1:=Tp a b w (by have:=AZ ha;omega) (by have:=AZ hb;omega);have i1:=Ch (num a) w (by have:=AZ ha;omega);have i2:=Ch (num b) w (by have:=AZ hb;omega);rw[Cw ha]at i1;rw[Cw hb]at i2;have c2:=fun W=>Fb (a+b) W (by omega);go_enter Tryz.func103,Tryz.ntmps103
 go_wp2_with fail
 refine i1.mono ?_;rintro e w' ⟨rfl,rfl⟩
 go_wp2_with fail
 refine i2.mono ?_;rintro e w' ⟨rfl,rfl⟩;clear i1 i2
 go_wp2_with fail
 refine(c1).mono ?_;rintro e w1 ⟨rfl,d⟩;replace d:=zh d
 go_wp2_with fail
 refine(c2 _).mono ?_;rintro e w2 ⟨rfl,rfl⟩;clear c1 c2;go_wp2;go_ret2;exact⟨rfl,d.o⟩
theorem NH(a b:Nat)(w:World)(ha:a<Lim)(hb:b<Lim)(h:(num (a*b)).size<=1000):
 Calls Tryz.prog 36 #[.string (num a),.string (num b)] w fun e w'=>e=.returned (.tuple #[.string (Ft (a*b)),.int .i64 (Fu (a*b))])/\Below w.heap.size w w':=by
 have c1:=Qm a b w (by have:=AZ ha;omega) (by have:=AZ hb;omega);have i1:=Ch (num a) w (by have:=AZ ha;omega);have i2:=Ch (num b) w (by have:=AZ hb;omega);rw[Cw ha]at i1;rw[Cw hb]at i2;have c2:=fun W=>Fb (a*b) W (by omega);go_enter Tryz.func36,Tryz.ntmps36
 go_wp2_with fail
 refine i1.mono ?_;rintro e w' ⟨rfl,rfl⟩
 go_wp2_with fail
 refine i2.mono ?_;rintro e w' ⟨rfl,rfl⟩;clear i1 i2
 go_wp2_with fail
 refine(c1).mono ?_;rintro e w1 ⟨rfl,d⟩;replace d:=zh d
 go_wp2_with fail
 refine(c2 _).mono ?_;rintro e w2 ⟨rfl,rfl⟩;clear c1 c2;go_wp2;go_ret2;exact⟨rfl,d.o⟩
theorem NI(a b:Nat)(w:World)(ha:a<Lim)(hb:b<Lim):
 Calls Tryz.prog 34 #[.string (num a),.string (num b)] w fun e w'=>e=.returned (.tuple #[.string (num (Nat.gcd a b)),.int .i64 0])/\Below w.heap.size w w':=by
 have c1:=NF a b w (by have:=AZ ha;omega) (by have:=AZ hb;omega);have i1:=Ch (num a) w (by have:=AZ ha;omega);have i2:=Ch (num b) w (by have:=AZ hb;omega);rw[Cw ha]at i1;rw[Cw hb]at i2;go_enter Tryz.func34,Tryz.ntmps34
 go_wp2_with fail
 refine i1.mono ?_;rintro e w' ⟨rfl,rfl⟩
 go_wp2_with fail
 refine i2.mono ?_;rintro e w' ⟨rfl,rfl⟩;clear i1 i2
 go_wp2_with fail
 refine(c1).mono ?_;rintro e w1 ⟨rfl,d⟩;replace d:=zh d;clear c1;go_wp2;go_ret2;exact⟨rfl,d.o⟩
theorem NJ(a b:Nat)(w:World)(ha:a<Lim)(hb:b<Lim)(h:b≠0):
 Calls Tryz.prog 35 #[.string (num a),.string (num b)] w fun e w'=>e=.returned (.tuple #[.string (num (a/b)),.string (num (a%b)),.int .i64 0])/\Below w.heap.size w w':=by
 have c1:=LO a b w (by have:=AZ ha;omega) (by have:=AZ hb;omega) h;have hz:=Hh b;rw[zD h]at hz;replace h:=zh h;have i1:=Ch (num a) w (by have:=AZ ha;omega);have i2:=Ch (num b) w (by have:=AZ hb;omega);rw[Cw ha]at i1;rw[Cw hb]at i2;go_enter Tryz.func35,Tryz.ntmps35
 go_wp2_with fail
 refine i1.mono ?_;rintro e w' ⟨rfl,rfl⟩
 go_wp2_with fail
 refine i2.mono ?_;rintro e w' ⟨rfl,rfl⟩;clear i1 i2
 go_wp2_with fail
 refine(c1).mono ?_;rintro e w1 ⟨rfl,d⟩;replace d:=zh d;clear c1;go_wp2
 go_ret3
 exact⟨rfl,d.o⟩
theorem VQ(a b:Nat)(w:World)(ha:a<Lim)(hb:b<Lim):Calls Tryz.prog 34 #[.string (T (some a)),.string (T (some b))] w fun e w'=>e=.returned (.tuple #[.string (T (some (Nat.gcd a b))),.int .i64 0])/\Below w.heap.size w w':=NI a b w ha hb
theorem WN(a b:Nat)(w:World)(ha:a<Lim)(hb:b<Lim)(h:b≠0):Calls Tryz.prog 35 #[.string (T (some a)),.string (T (some b))] w fun e w'=>e=.returned (.tuple #[.string (T (some (a/b))),.string (T (some (a%b))),.int .i64 0])/\Below w.heap.size w w':=NJ a b w ha hb h
theorem WO(a b:Nat)(w:World)(ha:a<Lim)(hb:b<Lim)(h:a*b<Lim):Calls Tryz.prog 36 #[.string (T (some a)),.string (T (some b))] w fun e w'=>e=.returned (.tuple #[.string (T (some (a*b))),.int .i64 0])/\Below w.heap.size w w':=by
 have:=NH a b w ha hb (by have:=AZ h;omega);unfold Ft Fu at this;rw[zG h,zG h]at this;exact this
theorem ris(s:ByteArray)(b:Bool)(h:isN s=b)(w:World)(hs:s.size<=140737488355328):Calls Tryz.prog 76 #[.string s] w fun e w'=>e=.returned (.bool b)/\w=w':=by
 have:=Ch s w hs
 rwa [h]at this
theorem Kz(g:Bool)(n d:ByteArray)(w:World)(hn:n.size<=140737488355328)(h:isN n=false):
 Calls Tryz.prog 33 #[.agg #[.bool g,.string n,.string d]] w fun e w'=>e=.returned (.bool false)/\Below w.heap.size w w':=by
 replace h:=zh h;go_enter Tryz.func33,Tryz.ntmps33
 go_wp2_with fail
 refine(ris n false h.o _ hn).mono ?_;rintro e w1 ⟨rfl,rfl⟩;go_wp2;go_ret;exact⟨rfl,BJ w _ _ _⟩
theorem K0(g:Bool)(n d:ByteArray)(w:World)(hn:n.size<=140737488355328)(hd:d.size<=140737488355328)(h:isN n=true)(h2:isN d=false):
 Calls Tryz.prog 33 #[.agg #[.bool g,.string n,.string d]] w fun e w'=>e=.returned (.bool false)/\Below w.heap.size w w':=by
 replace h:=zh h;replace h2:=zh h2;go_enter Tryz.func33,Tryz.ntmps33
 go_wp2_with fail
 refine(ris n true h.o _ hn).mono ?_;rintro e w1 ⟨rfl,rfl⟩
 go_wp2_with fail
 refine(ris d false h2.o _ hd).mono ?_;rintro e w1 ⟨rfl,rfl⟩;go_wp2;go_ret;exact⟨rfl,BJ w _ _ _⟩
theorem K1(g:Bool)(a:Nat)(w:World)(ha:a<Lim):
 Calls Tryz.prog 33 #[.agg #[.bool g,.string (T (some a)),.string (T (some 0))]] w fun e w'=>e=.returned (.bool false)/\Below w.heap.size w w':=by
 have hb:0<Lim:=by omega
 have ia:=zh (C7 (Ah ha));have za:=zh (B6 (Ah ha));have ib:=zh (C7 (Ah hb));have zb:=zh (B6 (Ah hb));have z:=AF 0;rw[zH rfl]at z;go_enter Tryz.func33,Tryz.ntmps33
 go_wp2_with fail
 refine(ris _ true ia.o _ za.o).mono ?_;rintro e w1 ⟨rfl,rfl⟩
 go_wp2_with fail
 refine(ris _ true ib.o _ zb.o).mono ?_;rintro e w1 ⟨rfl,rfl⟩;go_wp2;go_ret;exact⟨rfl,BJ w _ _ _⟩
theorem K2(b:Nat)(w:World)(hb:b<Lim)(a:b≠0):
 Calls Tryz.prog 33 #[.agg #[.bool true,.string (T (some 0)),.string (T (some b))]] w fun e w'=>e=.returned (.bool false)/\Below w.heap.size w w':=by
 have ha:0<Lim:=by omega
 have ia:=zh (C7 (Ah ha));have za:=zh (B6 (Ah ha));have ib:=zh (C7 (Ah hb));have zb:=zh (B6 (Ah hb));have z:=AF 0;rw[zH rfl]at z;have z2:=AF b;rw[zD a]at z2;replace a:=zh a;go_enter Tryz.func33,Tryz.ntmps33
 go_wp2_with fail
 refine(ris _ true ia.o _ za.o).mono ?_;rintro e w1 ⟨rfl,rfl⟩
 go_wp2_with fail
 refine(ris _ true ib.o _ zb.o).mono ?_;rintro e w1 ⟨rfl,rfl⟩;go_wp2;go_ret;exact⟨rfl,BJ w _ _ _⟩
theorem F8(a b:Nat)(w:World)(ha:a<Lim)(hb:b<Lim)(d:b≠0):
 Calls Tryz.prog 33 #[.agg #[.bool false,.string (T (some a)),.string (T (some b))]] w fun e w'=>e=.returned (.bool (decide (Nat.gcd a b=1)))/\Below w.heap.size w w':=by
 have ia:=zh (C7 (Ah ha));have za:=zh (B6 (Ah ha));have ib:=zh (C7 (Ah hb));have zb:=zh (B6 (Ah hb));have z2:=AF b;rw[zD d]at z2;have z3:=FU (Nat.gcd a b);replace d:=zh d;go_enter Tryz.func33,Tryz.ntmps33
 go_wp2_with fail
 refine(ris _ true ia.o _ za.o).mono ?_;rintro e w1 ⟨rfl,rfl⟩
 go_wp2_with fail
 refine(ris _ true ib.o _ zb.o).mono ?_;rintro e w1 ⟨rfl,rfl⟩
 go_wp2_with fail
 refine(VQ a b _ ha hb).mono ?_;rintro e w1 ⟨rfl,h⟩;have aa:=zh ((BJ w false (T (some a)) (T (some b))).trans (h.mono (by simp)));clear h;go_wp2;go_ret;exact⟨rfl,aa.o⟩
theorem IQ(a b:Nat)(w:World)(ha:a<Lim)(hb:b<Lim)(h:b≠0)(d:a≠0):
 Calls Tryz.prog 33 #[.agg #[.bool true,.string (T (some a)),.string (T (some b))]] w fun e w'=>e=.returned (.bool (decide (Nat.gcd a b=1)))/\Below w.heap.size w w':=by
 have ia:=zh (C7 (Ah ha));have za:=zh (B6 (Ah ha));have ib:=zh (C7 (Ah hb));have zb:=zh (B6 (Ah hb));have z2:=AF b;rw[zD h]at z2;have z3:=FU (Nat.gcd a b);replace h:=zh h;have z:=AF a;rw[zD d]at z;replace d:=zh d;go_enter Tryz.func33,Tryz.ntmps33
 go_wp2_with fail
 refine(ris _ true ia.o _ za.o).mono ?_;rintro e w1 ⟨rfl,rfl⟩
 go_wp2_with fail
 refine(ris _ true ib.o _ zb.o).mono ?_;rintro e w1 ⟨rfl,rfl⟩
 go_wp2_with fail
 refine(VQ a b _ ha hb).mono ?_;rintro e w1 ⟨rfl,aa⟩;have ad:=zh ((BJ w true (T (some a)) (T (some b))).trans (aa.mono (by simp)));clear aa;go_wp2;go_ret;exact⟨rfl,ad.o⟩
theorem LP(g:Bool)(n d:ByteArray)(w:World)(hn:n.size<=140737488355328)(hd:d.size<=140737488355328):
 Calls Tryz.prog 33 #[.agg #[.bool g,.string n,.string d]] w fun e w'=>e=.returned (.bool (Au g n d))/\Below w.heap.size w w':=by
 cases h1:isN n with
 |false=>
  have e:Au g n d=false:=by unfold Au;rw[h1];rfl
  rw[e];exact Kz g n d w hn h1
 |true=>
  cases h2:isN d with
  |false=>
   have e:Au g n d=false:=by unfold Au;rw[h1,h2];rfl
   rw[e];exact K0 g n d w hn hd h1 h2
  |true=>
   obtain⟨a,ha,rfl⟩:=BI h1;obtain⟨b,hb,rfl⟩:=BI h2;rw[Fi g a b ha hb]
   by_cases hb0:b=0
   .subst hb0;simp only[decide_true,vr,xv];exact K1 g a w ha
   rw[zD hb0,vF,yo]
   by_cases ha0:a=0
   .rw [zG ha0];subst ha0
    cases g with
    |true=>exact K2 b w hb hb0
    |false=>
     have e:(!false&&decide (b=1))=decide (Nat.gcd 0 b=1):=by
      rw[vF,yo];exact decide_eq_decide.2 (by rw[vd])
     rw[e];exact F8 0 b w ha hb hb0
   rw[zF ha0]
   cases g with
   |true=>exact IQ a b w ha hb hb0 ha0
   |false=>exact F8 a b w ha hb hb0
end Nt
end
section
open Go.RowKit Go.Shelf
namespace Bd
open Nt Ci Sh
theorem JD(A:Option Addr)(ca:Nat)(l:List Raw)(w:World)(hl:InRow w A l)(aH:l.length<=140737488355328)(aw:∀k (h:k<l.length),l[k].2.1.size<=140737488355328/\l[k].2.2.size<=140737488355328):
 Calls Tryz.prog 10 #[.slice A l.length ca] w fun e w'=>e=.returned (.bool (Cl l))/\Below w.heap.size w w':=by
 have ax:Hid (Below w.heap.size w w):=zI _ _;have ao:Hid (Cl l=E3 1 (l.drop 0)):=rfl;have aC:Hid (0<1/\1<10^65):=⟨by decide,Nat.one_lt_pow (by decide) (by decide)⟩;replace hl:=zh hl;replace aw:=zh aw;generalize Cl l=fin at ao ⊢;have az:Value.string ⟨#[49]⟩=.string (T (some 1)):=by kernel_rfl
 go_enter Tryz.func10,Tryz.ntmps10;go_wp2
 go_loopw [3,4] (fun mv ix wr=>∃(k m:Nat),k<=l.length/\ix=.int .i64 (k:Int)/\mv=.string (T (some m))/\Hid (fin=E3 m (l.drop k))/\Hid (0<m/\m<10^65)/\Hid (Below w.heap.size w wr)) (fun _ ix _=>l.length-(intOf ix).toNat)
 case atStart=>exact⟨0,1,zP _,rfl,az,ao,aC,ax⟩
 case round=>
  clear ao aC ax az;obtain⟨k,m,hk,rfl,rfl,hI,hm,hB⟩:=hrel;obtain⟨wz,rfl⟩:∃z,z=wr:=⟨_,rfl⟩;have j0:(0:Int)<=(k:Int):=by omega
  by_cases hlt:k<l.length
  .have j1:(k:Int)<(l.length:Int):=by omega
   obtain⟨b,o,rfl,ad,hc⟩:=hl.o (by omega);obtain⟨e0,e1,e2⟩:=hc k hlt;have hs:=aw.o k hlt;have hdr:l.drop k=l[k]::l.drop (k+1):=xQ hlt;rw[hdr]at hI;have aG:∀x:Raw,DG x=Au x.1 x.2.1 x.2.2:=fun _=>rfl;obtain⟨x,hx⟩:∃x,x=l[k]:=⟨_,rfl⟩;rw[<-hx]at e0 e1 e2 hs hI;obtain⟨gg,nn,dd⟩:=x;dsimp only at e0 e1 e2 hs;obtain⟨vb,al⟩:∃r,r=Au gg nn dd:=⟨_,rfl⟩;have aa:Hid (DG (gg,nn,dd)=vb):=al.symm;have kv:Hid (∀W,Calls Tryz.prog 33 #[.agg #[.bool gg,.string nn,.string dd]] W fun e w'=>e=.returned (.bool vb)/\Below W.heap.size W w'):=fun W=>by rw[al];exact LP gg nn dd W hs.1 hs.2
   have hT:Hid (∀W,Below w.heap.size w W->b<W.heap.size/\W.cell? ⟨b,o+k*3,none⟩=some (.bool gg)/\W.cell? ⟨b,o+k*3+1,none⟩=some (.string nn)/\W.cell? ⟨b,o+k*3+2,none⟩=some (.string dd)):=fun W h=>⟨zJ ad h.size,(h.cell (p:=⟨b,o+k*3,none⟩) ad).trans e0,(h.cell (p:=⟨b,o+k*3+1,none⟩) ad).trans e1,(h.cell (p:=⟨b,o+k*3+2,none⟩) ad).trans e2⟩;replace al:=zh al;replace hx:=zh hx;replace hs:=zh hs;clear hc hdr aG e0 e1 e2 ad;obtain⟨t9,t0,t1,t2⟩:=hT.o wz hB.o
   go_wp2_with fail
   refine(kv.o _).mono ?_;rintro e w2 ⟨rfl,hb⟩;have a:=zh (hB.o.trans (hb.mono hB.o.size));clear hb hB kv t9 t0 t1 t2;obtain⟨t9,t0,t1,t2⟩:=hT.o w2 a.o
   cases vb with
   |false=>
    have hf:fin=false:=by rw[hI.o];unfold E3;rw[aa.o];rfl
    subst hf;go_wp2;go_ret;exact⟨rfl,a.o⟩
   |true=>
    cases gg with
    |true=>
     have hf:fin=false:=by rw[hI.o];unfold E3;rw[aa.o];rfl
     subst hf;go_wp2;go_ret;exact⟨rfl,a.o⟩
    |false=>
     have hq:=ER (x:=(false,nn,dd)) (by exact aa.o);obtain⟨q,ak⟩:∃q,q=vq (false,nn,dd):=⟨_,rfl⟩;rw[<-ak]at hq;have d:dd=T (some q.den):=(congrArg (·.2.2) hq.1).symm;have aj:q.den<Lim:=hq.2.2
     have ah:Hid (fin=(decide (nn.size<=65)&&(decide (dd.size<=65)&&(decide ((T (some (Bi m q.den))).size<=65)&&E3 (Bi m q.den) (l.drop (k+1)))))):=by
      rw[hI.o,G3,aa.o,<-ak,yo];exact yo _
     have aD:Hid (0<q.den):=q.den_pos;replace hq:=zh hq;replace ak:=zh ak;clear hI aa
     by_cases h1:65<nn.size
     .have hf:fin=false:=by rw[ah.o,zD (by omega)];rfl
      subst hf;have m1:decide ((65:Int)<(nn.size:Int))=true:=zH (by omega);have m2:decide (65<nn.size)=true:=zH (by omega);replace h1:=zh h1;go_wp2;go_ret;exact⟨rfl,a.o⟩
     have m1:decide ((65:Int)<(nn.size:Int))=false:=zD (by omega);have m2:decide (65<nn.size)=false:=zD (by omega)
     by_cases h1d:65<dd.size
     .have hf:fin=false:=by rw[ah.o,zD (p:=dd.size<=65) (by omega)];simp
      subst hf;have m3:decide ((65:Int)<(dd.size:Int))=true:=zH (by omega);have m4:decide (65<dd.size)=true:=zH (by omega);replace h1:=zh h1;replace d:=zh d;replace h1d:=zh h1d;go_wp2;go_ret;exact⟨rfl,a.o⟩
     have m3:decide ((65:Int)<(dd.size:Int))=false:=zD (by omega);have m4:decide (65<dd.size)=false:=zD (by omega)
     have ai:Hid (fin=(decide ((T (some (Bi m q.den))).size<=65)&&E3 (Bi m q.den) (l.drop (k+1)))):=by
      rw[ah.o,zH (by omega),zH (p:=dd.size<=65) (by omega)];rfl
     have af:m<Lim:=zJ hm.o.2 (zS (xy _ (xT (by decide))) JW);have am:q.den<10^65:=(Cu (by decide)).1 (by rw[<-d];omega);have aA:0<Nat.gcd m q.den:=vU _ hm.o.1;obtain⟨gd,ae⟩:∃g,g=Nat.gcd m q.den:=⟨_,rfl⟩;have aB:gd<Lim:=by rw[ae];exact Fh af aj
     rw[<-ae]at aA;have av:m/gd<Lim:=zl (xo _ _) af
     have hp:Bi m q.den=m/gd*q.den:=by
      unfold Bi;rw[ae,<-Nat.mul_div_assoc _ (Nat.gcd_dvd_right m q.den),zn,Nat.mul_div_assoc _ (vK m q.den),zn]
     have au:m/gd*q.den<Lim:=zJ (zl (yG _ (zS (xo _ _) (xA hm.o.2))) (Nat.mul_lt_mul_of_pos_left am (xT (by decide)))) JW
     have k1:Hid (∀W,Calls Tryz.prog 34 #[.string (T (some m)),.string dd] W fun e w'=>e=.returned (.tuple #[.string (T (some gd)),.int .i64 0])/\Below W.heap.size W w'):=fun W=>by
      have h:=VQ m q.den W af aj;rw[<-ae,<-d]at h;exact h
     have k2:Hid (∀W,Calls Tryz.prog 35 #[.string (T (some m)),.string (T (some gd))] W fun e w'=>e=.returned (.tuple #[.string (T (some (m/gd))),.string (T (some (m%gd))),.int .i64 0])/\Below W.heap.size W w'):=fun W=>WN m gd W af aB (by omega)
     have k3:Hid (∀W,Calls Tryz.prog 36 #[.string (T (some (m/gd))),.string dd] W fun e w'=>e=.returned (.tuple #[.string (T (some (Bi m q.den))),.int .i64 0])/\Below W.heap.size W w'):=fun W=>by
      have h:=WO (m/gd) q.den W av aj au;rw[<-hp,<-d]at h;exact h
     have aq:Hid (0<Bi m q.den):=G4 hm.o.1 aD.o;have ar:Hid ((T (some (Bi m q.den))).size<=65->Bi m q.den<10^65):=(Cu (by decide)).1;generalize m/gd=qd at k2 k3 hp av au;generalize Bi m q.den=mm at k3 hp ai aq ar;replace h1:=zh h1;replace h1d:=zh h1d;clear d aj aD af am aA ae aB av hp au ah
     go_wp2_with fail
     refine(k1.o _).mono ?_;rintro e w3 ⟨rfl,hb⟩;have an:=zh (a.o.trans (hb.mono a.o.size));clear hb k1 a t9 t0 t1 t2
     go_wp2_with fail
     refine(k2.o _).mono ?_;rintro e w4 ⟨rfl,hb⟩;have ag:=zh (an.o.trans (hb.mono an.o.size));clear hb k2 an;obtain⟨t9,t0,t1,t2⟩:=hT.o w4 ag.o
     go_wp2_with fail
     refine(k3.o _).mono ?_;rintro e w5 ⟨rfl,hb⟩;have ay:=zh (ag.o.trans (hb.mono ag.o.size));clear hb k3 ag t9 t0 t1 t2
     by_cases h2:65<(T (some mm)).size
     .have m5:decide ((65:Int)<((T (some mm)).size:Int))=true:=zH (by omega);have m6:decide (65<(T (some mm)).size)=true:=zH h2;have hf:fin=false:=by rw[ai.o,zD (by omega)];rfl
      subst hf;replace h2:=zh h2;go_wp2;go_ret;exact⟨rfl,ay.o⟩
     have m5:decide ((65:Int)<((T (some mm)).size:Int))=false:=zD (by omega);have m6:decide (65<(T (some mm)).size)=false:=zD h2;have aE:Hid (fin=E3 mm (l.drop (k+1))):=by rw[ai.o,zH (by omega)];rfl
     have aF:Hid (0<mm/\mm<10^65):=⟨aq.o,ar.o (by omega)⟩;replace h2:=zh h2;clear ai aq ar;go_wp2;exact⟨⟨k+1,mm,by omega,by go_num,rfl,aE,aF,ay⟩,by simp only[intOf];omega⟩
  obtain rfl:k=l.length:=by omega
  have hf:fin=true:=by rw[hI.o,List.drop_length];rfl
  subst hf;go_wp2;go_ret;exact⟨rfl,hB.o⟩
end Bd
end
end Go.Proofs.YtmfjbpcecpgchaaGreatDoor

/- Parts of the proof. -/
import Derived.Laws.EntriesVeiled
import Derived.Test.YtefmpngjjmddjaaGreatDoorKgF
set_option maxHeartbeats 16000000
set_option maxRecDepth 1000000
open Go.Proofs.Tryz
namespace Go.Proofs.YtefmpngjjmddjaaGreatDoor
theorem tkgG{P:Program}{md:Region.Mode}{ops:Array Oper}{Q:Exit->Act->World->Prop}{S:World->Prop}{oi:Oper}{v:Value}{fuel:Nat}{listed:Array Bool}{a:Act}{w:World}(i:Nat)(hi:ops[i]?=some oi)(hS:S w)(hy:YieldsIf P ops S oi v a)(h:wpAnyH P md ops Q S fuel (listed.setIfInBounds i true) (a.put oi.dst v) w)(hs:Region.noSelect ops=true:=by kernel_rfl)(hf:Region.free md ops listed i=true:=by kernel_rfl)(hr:(Region.ready md ops listed).contains i=true:=by kernel_rfl)(hQ:∀c a w,Q (.panic c) (a.put oi.dst v) w->Q (.panic c) a w:=by exact fun _ _ _ h=>h):wpAnyH P md ops Q S (fuel+1) listed a w:=xY hi hs hf hr hQ hy hS h
section
namespace Sh
open Nt Ci
def A4(l:List Lk):List Lp:=l.map fun x=>(x.1.toNat,x.2.1.toNat,vq (lkP x))
theorem GY{x:Rw}(h:unitsN x≠0):A5 x.1 x.2.1 x.2.2=true/\x.1=false/\val x.2.1<=val x.2.2/\6000%val x.2.2=0/\unitsN x=val x.2.1*(6000/val x.2.2):=by
 unfold unitsN at h ⊢
 split at h
 .exact absurd rfl h
 rename_i h1
 split at h
 .exact absurd rfl h
 rename_i h2;rw[zC h1,zC h2];refine⟨?_,?_,by omega,by omega,rfl⟩
 .cases c:A5 x.1 x.2.1 x.2.2 with
  |true=>rfl
  |false=>exact absurd (.inl c) h1
 cases c:x.1 with
 |false=>rfl
 |true=>exact absurd (.inr (.inl c)) h1
theorem P8{g:Bool}{n d:ByteArray}(h:A5 g n d=true):val d≠0:=by
 obtain⟨q,_,_,_,rfl⟩:=H4 h
 show val (num q.den)≠0
 rw[Bl];exact q.den_nz
theorem G9{x:Rw}(h:unitsN x≠0):6000*vq x=(unitsN x:Rat):=by
 obtain⟨h1,h2,h3,h4,h5⟩:=GY h;have hd:=P8 h1;obtain⟨g,n,d⟩:=x;simp only at h1 h2 h3 h4 h5 hd;subst h2;rw[h5];unfold vq
 show 6000*mkRat (sg false (val n)) (val d)=_
 have hk:val d*(6000/val d)=6000:=by have:=Nat.div_add_mod 6000 (val d);omega
 have hdr:(val d:Rat)≠0:=by
  intro e;exact hd (Rat.natCast_inj.1 (show ((val d:Nat):Rat)=((0:Nat):Rat) from e))
 have aa:(val d:Rat)*((6000/val d:Nat):Rat)=6000:=by
  rw[<-xr,hk];rfl
 rw[Rat.mkRat_eq_div];have e1:((sg false (val n):Int):Rat)=(val n:Rat):=by unfold sg;simp[Rat.intCast_natCast]
 rw[e1,xr];generalize (val d:Rat)=D at hdr aa;generalize ((6000/val d:Nat):Rat)=K at aa;generalize (val n:Rat)=N;rw[<-aa,wW];have:=xk D hdr;grind
theorem P9{x:Rw}(h:unitsN x≠0):0<vq x:=by
 have h1:=G9 h;have h2:(0:Rat)<(unitsN x:Rat):=Rat.natCast_pos.2 (by omega);grind
theorem Nk{p:Nat}:∀{l:List Lk},(∀x,x∈l->0<=x.1/\unitsN (lkP x)≠0)->6000*AB p (fun _=>1) (A4 l)=(sumU l (p:Int):Rat):=by
 intro l
 induction l with
 |nil=>intro _;show 6000*0=((0:Nat):Rat);grind
 |cons x l ih=>
  intro h;obtain⟨h0,h1⟩:=h x zf;have h2:=ih fun y hy=>h y (zY _ hy);have h3:=G9 h1;unfold A4;rw[yy]
  show 6000*((if x.1.toNat=p then vq (lkP x)*1 else 0)+AB p (fun _=>1) (A4 l))=_
  unfold sumU at h2 ⊢;rw[zk]
  by_cases e:x.1=(p:Int)
  .rw[zD (by omega),zD (by simpa using e),yy,List.sum_cons,Rat.natCast_add,<-h2,<-h3];grind
  rw[zC (by omega),zC (by simpa using e),<-h2];grind
theorem Fe{s:SR}(h:Ao s=true){x:Lk}(hx:x∈s.cap):(0<=x.1/\x.1<s.ps.length)/\(0<=x.2.1/\x.2.1<s.ps.length)/\unitsN (lkP x)≠0:=by
 unfold Ao at h;simp only[zq,yG]at h;obtain⟨i,hi,rfl⟩:=zg hx;obtain⟨⟨a1,a2,_,a4⟩,_,_⟩:=D4 h.2.2.1 hi;exact⟨a1,a2,a4⟩
theorem CW{s:SR}(h:Ao s=true):Caps s.ps.length (A4 s.cap):=by
 refine⟨fun y hy=>?_,fun y hy=>?_,fun y hy=>?_,fun p=>?_⟩
 .obtain⟨x,hx,rfl⟩:=List.mem_map.1 hy;obtain⟨h1,h2,_⟩:=Fe h hx;exact⟨by show x.1.toNat<_;omega,by show x.2.1.toNat<_;omega⟩
 .obtain⟨x,hx,rfl⟩:=List.mem_map.1 hy;exact⟨(unitsN (lkP x):Nat),by show 6000*vq (lkP x)=_;rw[G9 (Fe h hx).2.2,vB]⟩
 .obtain⟨x,hx,rfl⟩:=List.mem_map.1 hy;exact P9 (Fe h hx).2.2
 have h1:=Nk (p:=p) (l:=s.cap) fun x hx=>⟨(Fe h hx).1.1,(Fe h hx).2.2⟩
 have hg:E7 s.ps.length s.cap=true:=by
  unfold Ao at h;simp only[zq]at h;exact h.2.2.1
 have h2:=NW (n:=s.ps.length) (l:=s.cap) s.cap.length (zB _) (fun i hi _=>D4 hg hi) (p:Int);rw[zn]at h2;have h3:(sumU s.cap (p:Int):Rat)<=((6000:Nat):Rat):=Rat.natCast_le_natCast.2 h2;rw[<-h1]at h3;have h4:((6000:Nat):Rat)=6000:=rfl;rw[h4]at h3;grind
theorem Cg(s:SR):Ai (A4 s.cap)=Ag s:=by
 unfold Ai A4 Ag;rw[xm];rfl
theorem Uz{x:Rat}{d:Nat}(hd:0<d)(h:IsI ((d:Rat)*x)):x.den∣d:=by
 obtain⟨z,hz⟩:=h
 have hdr:(d:Rat)≠0:=by
  have:(0:Rat)<(d:Rat):=Rat.natCast_pos.2 hd;grind
 have e:x=mkRat z d:=by
  rw[Rat.mkRat_eq_div,<-hz,wW];have:=xk _ hdr;grind
 rw[e,Rat.den_mkRat,zC (by omega)];exact Nat.div_dvd_of_dvd (Nat.gcd_dvd_left _ _)
theorem VW{x:Rat}(h1:-1<=x)(h2:x<=1):x.num.natAbs<=x.den:=by
 have a:=(Rat.le_iff _ _).1 h1;have b:=(Rat.le_iff _ _).1 h2;have e1:(-1:Rat).num=-1:=rfl;have e2:(-1:Rat).den=1:=rfl;have e3:(1:Rat).num=1:=rfl;have e4:(1:Rat).den=1:=rfl;rw[e1,e2]at a;rw[e3,e4]at b;omega
theorem L5:6000^34<L1:=by
 unfold L1;rw[E6];decide
theorem Ch{x:Rat}{B:Nat}(h:Fit B x)(hB:B<L1):ShortQ x:=by
 obtain⟨a,b,d,d1,d2,d3⟩:=h;have h1:=Nat.le_of_dvd d1 (Uz d1 d3);have h2:=VW a b;exact⟨by omega,by omega⟩
theorem Kv:∀x,Fit (6000^34) x->SQ x=true:=fun _ h=>zG (Ch h L5)
end Sh
end
section
open Go.RowKit Go.Shelf
namespace Sh
open Nt Ci
theorem Ge{P:Program}{id:Nat}{Q:Exit->Act->World->Prop}{a:Act}{w:World}{l:List Oper}(hm:P.follows .mixedOrders=true)(hB:Region.lexB .any l.toArray=true)
 (h:wpQuiet P l.toArray (fun W=>Below w.heap.size w W) (fun a'=>∀w',Below w.heap.size w w'->Q .normal a' w') l a):(Code.region id l.toArray true).wp P Q a w :=
 wp_region_quiet (C:=fun W=>Below w.heap.size w W) hm hB ((zI _ w).drew) (by simpa using h)
theorem EK{P:Program}{f:FuncId}{args:Array Value}{w W:World}{v:Value}(hW:Below w.heap.size w W)(h:Calls P f args W fun e w'=>e=.returned v/\Below W.heap.size W w'):
 Calls P f args W fun e w'=>e=.returned v/\Below w.heap.size w w':=h.mono fun _ _ ⟨he,hb⟩=>⟨he,hW.trans (hb.mono hW.size)⟩
theorem Xd(w:World):(zeroValue 48).run prog w=.ok (.agg #[.bool false,.string ⟨#[]⟩,.string ⟨#[]⟩]) w:=by kernel_rfl
def MapV(w:World)(mb n:Nat)(val:Nat->Rat):Prop :=
 ∃c f,MapK prog 3 κi w mb c f/\c<=100000/\∀p:Nat,p<n->match f (p:Int) with|some v=>v=qv (val p)|none=>val p=0
theorem MapV.below{w w':World}{mb n:Nat}{val:Nat->Rat}(h:MapV w mb n val)(hb:Below w.heap.size w w'):MapV w' mb n val:=by
 obtain⟨c,f,h1,h2,h3⟩:=h;exact⟨c,f,h1.below hb,h2,h3⟩
theorem MapV.lt{w:World}{mb n:Nat}{val:Nat->Rat}(h:MapV w mb n val):mb<w.heap.size:=by
 obtain⟨c,f,h1,_⟩:=h;exact h1.lt
structure VM(w:World)(vb mb n:Nat)(val:Nat->Rat):Prop where
 x:Bk w vb 77 [.map (some mb)]
 m:MapV w mb n val
theorem VM.below{w w':World}{vb mb n:Nat}{val:Nat->Rat}(h:VM w vb mb n val)(hb:Below w.heap.size w w'):VM w' vb mb n val:=⟨h.x.below hb,h.m.below hb⟩
theorem J2(n:Nat)(val:Nat->Rat)(vb mb p:Nat)(hp:p<n)(hn:n<=1000)(w:World)(hE:Env w)(hV:VM w vb mb n val):
 Calls prog 37 #[.int .i64 (p:Int),.pointer (some ⟨vb,0,none⟩)] w fun e w'=>e=.returned (qv (val p))/\Below w.heap.size w w':=by
 have ag:Hid (Below w.heap.size w (w.alloc (.cells #[.bool false,.string ⟨#[]⟩,.string ⟨#[]⟩] 48))):=((zI _ w).alloc (zB _) _);have aj:Hid (Bk (w.alloc (.cells #[.bool false,.string ⟨#[]⟩,.string ⟨#[]⟩] 48)) (w.heap.size) 48 [.bool false,.string ⟨#[]⟩,.string ⟨#[]⟩]):=by have h:=Bk.new w 48 [.bool false,.string ⟨#[]⟩,.string ⟨#[]⟩]; exact h
 have am:=zh (hV.below ag.o);obtain⟨c,f,hM,_,ak⟩:=am.o.m;have aa:=hM.look_ok FA underlying77 (Xd _) (Ew underlying3 (a:=(p:Int)) (by omega) (by omega));have hx:=am.o.x;have x0:=hx.c0;have x9:=hx.lt;have ab:=ak p hp;replace hE:=zh hE;clear ak hM am hV hx
 cases ah:f (p:Int) with
 |some u=>
  rw[ah]at aa ab;replace ab:u=qv (val p):=ab;obtain⟨g,n0,d,hq⟩:=GQ (val p);rw[hq]at ab;subst ab;replace aa:(Instr.lookup 77 (.map (some mb)) (.int .i64 (p:Int)) true).run prog (w.alloc (.cells #[.bool false,.string ⟨#[]⟩,.string ⟨#[]⟩] 48))=.ok (.tuple #[.agg #[.bool g,.string n0,.string d],.bool true]) (w.alloc (.cells #[.bool false,.string ⟨#[]⟩,.string ⟨#[]⟩] 48)):=aa;replace ah:=zh ah;have ai:Hid (Below w.heap.size w ((w.alloc (.cells #[.bool false,.string ⟨#[]⟩,.string ⟨#[]⟩] 48)).alloc (.cells #[.bool g,.string n0,.string d] 48))):=ag.o.alloc ag.o.size _;have ad:=zh (aj.o.alloc (.cells #[.bool g,.string n0,.string d] 48));clear ag aj;have ao:Hid (Bk ((w.alloc (.cells #[.bool false,.string ⟨#[]⟩,.string ⟨#[]⟩] 48)).alloc (.cells #[.bool g,.string n0,.string d] 48)) (w.alloc (.cells #[.bool false,.string ⟨#[]⟩,.string ⟨#[]⟩] 48)).heap.size 48 [.bool g,.string n0,.string d]):=Bk.new _ _ _;have r0:=ad.o.c0;have r1:=ad.o.c1;have r2:=ad.o.c2;have r9:=ad.o.lt;have ap:=ad.o.frozen 0;have aq:=ad.o.frozen 1;have ar:=ad.o.frozen 2;go_enter func37,ntmps37;have al:Hid (Below w.heap.size w ((w.alloc (.cells #[.bool g,.string n0,.string d] 48)).alloc (.cells #[.bool g,.string n0,.string d] 48))):=((zI _ w).alloc (zB _) _).alloc (by simp) _;have ae:Hid (Bk ((w.alloc (.cells #[.bool g,.string n0,.string d] 48)).alloc (.cells #[.bool g,.string n0,.string d] 48)) w.heap.size 48 [.bool g,.string n0,.string d]):=(Bk.new w _ _).alloc _;go_wp2
  (try simp only[Exit.inBlock,Exit.then])
  have s0:=ae.o.c0;have s1:=ae.o.c1;have s2:=ae.o.c2;have s9:=ae.o.lt;refine zm (v:=.agg #[.bool g,.string n0,.string d]) (by simp[results,results37,go_sem,s0,s1,s2]) rfl ⟨by rw[hq],al.o⟩
 |none=>
  rw[ah]at aa ab;replace ab:val p=0:=ab;obtain⟨g,n0,d,hq⟩:=GQ (0:Rat);rw[ab];replace aa:(Instr.lookup 77 (.map (some mb)) (.int .i64 (p:Int)) true).run prog (w.alloc (.cells #[.bool false,.string ⟨#[]⟩,.string ⟨#[]⟩] 48))=.ok (.tuple #[.agg #[.bool false,.string ⟨#[]⟩,.string ⟨#[]⟩],.bool false]) (w.alloc (.cells #[.bool false,.string ⟨#[]⟩,.string ⟨#[]⟩] 48)):=aa;replace ah:=zh ah;replace ab:=zh ab;have ai:Hid (Below w.heap.size w ((w.alloc (.cells #[.bool false,.string ⟨#[]⟩,.string ⟨#[]⟩] 48)).alloc (.cells #[.bool false,.string ⟨#[]⟩,.string ⟨#[]⟩] 48))):=ag.o.alloc ag.o.size _;have ad:=zh (aj.o.alloc (.cells #[.bool false,.string ⟨#[]⟩,.string ⟨#[]⟩] 48));clear ag aj;have ao:Hid (Bk ((w.alloc (.cells #[.bool false,.string ⟨#[]⟩,.string ⟨#[]⟩] 48)).alloc (.cells #[.bool false,.string ⟨#[]⟩,.string ⟨#[]⟩] 48)) (w.alloc (.cells #[.bool false,.string ⟨#[]⟩,.string ⟨#[]⟩] 48)).heap.size 48 [.bool false,.string ⟨#[]⟩,.string ⟨#[]⟩]):=Bk.new _ _ _;have kn:Hid (Calls prog 36 #[.int .i64 0] ((w.alloc (.cells #[.bool false,.string ⟨#[]⟩,.string ⟨#[]⟩] 48)).alloc (.cells #[.bool false,.string ⟨#[]⟩,.string ⟨#[]⟩] 48)) fun e w'=>e=.returned (.agg #[.bool g,.string n0,.string d])/\Below (((w.alloc (.cells #[.bool false,.string ⟨#[]⟩,.string ⟨#[]⟩] 48)).alloc (.cells #[.bool false,.string ⟨#[]⟩,.string ⟨#[]⟩] 48))).heap.size ((w.alloc (.cells #[.bool false,.string ⟨#[]⟩,.string ⟨#[]⟩] 48)).alloc (.cells #[.bool false,.string ⟨#[]⟩,.string ⟨#[]⟩] 48)) w'):=by have h:=Js 0 (by omega) ((w.alloc (.cells #[.bool false,.string ⟨#[]⟩,.string ⟨#[]⟩] 48)).alloc (.cells #[.bool false,.string ⟨#[]⟩,.string ⟨#[]⟩] 48)) (hE.o.below ai.o);rw[show ((0:Int):Rat)=0 from rfl,hq]at h;exact h
  go_enter func37,ntmps37
  go_wp2_with fail
  refine kn.o.q fun w4 hb=>?_;have an:=ai.t hb;have af:=zh (ad.o.below hb);clear hb ai ad kn;have r0:=af.o.c0;have r1:=af.o.c1;have r2:=af.o.c2;have r9:=af.o.lt;have ap:=af.o.frozen 0;have aq:=af.o.frozen 1;have ar:=af.o.frozen 2;have al:Hid (Below w.heap.size w (((w4.setCell ⟨w.heap.size,0,none⟩ (.bool g)).setCell ⟨w.heap.size,1,none⟩ (.string n0)).setCell ⟨w.heap.size,2,none⟩ (.string d))):=(((an.o.setCell (p:=⟨w.heap.size,0,none⟩) (zB _) _).setCell (p:=⟨w.heap.size,1,none⟩) (zB _) _).setCell (p:=⟨w.heap.size,2,none⟩) (zB _) _);have ae:Hid (Bk (((w4.setCell ⟨w.heap.size,0,none⟩ (.bool g)).setCell ⟨w.heap.size,1,none⟩ (.string n0)).setCell ⟨w.heap.size,2,none⟩ (.string d)) (w.heap.size) 48 [.bool g,.string n0,.string d]):=(Bk.set (Bk.set (Bk.set af.o 0 (.bool g)) 1 (.string n0)) 2 (.string d));go_wp2
  (try simp only[Exit.inBlock,Exit.then])
  have s0:=ae.o.c0;have s1:=ae.o.c1;have s2:=ae.o.c2;have s9:=ae.o.lt;refine zm (v:=.agg #[.bool g,.string n0,.string d]) (by simp[results,results37,go_sem,s0,s1,s2]) rfl ⟨by rw[hq],al.o⟩
theorem Oj{a b:Int}(h:a=b):Ending.returned (.int .i64 a)=.returned (.int .i64 b):=by rw[h]
def GA(l:List Int)(x:Int):Int:=if x∈l then (l.idxOf x:Int) else -1
theorem Vp{l:List Int}{x:Int}{k:Nat}(hk:k<l.length)(h:∀j (hj:j<l.length),j<k->l[j]≠x)(e:l[k]=x):GA l x=(k:Int):=by
 have hm:x∈l:=by rw[<-e];exact zN hk
 unfold GA;rw[zD hm];have h1:l.idxOf x<l.length:=List.idxOf_lt_length_of_mem hm;have h2:l[l.idxOf x]=x:=List.getElem_idxOf h1
 by_cases c:l.idxOf x<k
 .exact absurd h2 (h _ h1 c)
 by_cases c2:k<l.idxOf x
 .exact absurd e (by
   have:=List.not_of_lt_findIdx (p:=fun y=>y==x) (xs:=l) (i:=k) (by simpa [List.idxOf] using c2)
   simpa using this)
 omega
theorem Vq{l:List Int}{x:Int}(h:∀j (hj:j<l.length),l[j]≠x):GA l x=-1:=by
 unfold GA;rw[zC];intro hm;obtain⟨j,hj,e⟩:=zg hm;exact h j hj e
theorem J3(A:Option Addr)(ca:Nat)(l:List Int)(x:Int)(w:World)(hA:InInt w A l)(hl:l.length<=140737488355328):
 Calls prog 75 #[.slice A l.length ca,.int .i64 x] w fun e w'=>e=.returned (.int .i64 (GA l x))/\w'=w:=by
 replace hA:=zh hA;have aa:=zh (fun(k:Nat) (hk:k<l.length) h e=>Vp (l:=l) (x:=x) hk h e);have ab:=zh (fun h=>Vq (l:=l) (x:=x) h);go_enter func75,ntmps75;go_wp2
 go_loopw [8] (fun ix wr=>∃(k:Nat),k<=l.length/\ix=.int .i64 (k:Int)/\wr=w/\Hid (∀j (hj:j<l.length),j<k->l[j]≠x)) (fun ix _=>l.length-(intOf ix).toNat)
 case atStart=>exact⟨0,zQ _,rfl,rfl,fun j _ h=>absurd h (yB _)⟩
 case round=>
  obtain⟨k,hk,rfl,rfl,hN⟩:=hrel
  by_cases hlt:k<l.length
  .obtain ⟨b,o,rfl,ae,hc⟩:=hA.o (by omega);have e1:=hc k hlt;have hy:=zh (aa.o k hlt hN.o)
   have hn:Hid (l[k]≠x->∀j (hj:j<l.length),j<k+1->l[j]≠x):=fun h j hj h2=>by
    by_cases c:j=k
    .subst c;exact h
    exact hN.o j hj (by omega)
   obtain⟨y,d⟩:∃y,y=l[k]:=⟨_,rfl⟩;rw[<-d]at e1 hy hn;replace d:=zh d;have j0:(0:Int)<=(k:Int):=by omega
   have j1:(k:Int)<(l.length:Int):=by omega
   clear hc hN
   by_cases hxy:x=y
   .have m1:(x==y)=true:=by rw[yw];exact hxy
    have hr:=zh (hy.o hxy.symm);replace hxy:=zh hxy;clear hn hy;go_wp2;go_ret;exact⟨Oj hr.o.symm,rfl⟩
   have m1:(x==y)=false:=by rw[zP];exact hxy
   have ad:=zh (hn.o fun c=>hxy c.symm);replace hxy:=zh hxy;clear hn hy;go_wp2;exact⟨⟨k+1,by omega,by go_num,by first|rfl|trivial,ad⟩,by simp only[intOf];omega⟩
  obtain rfl:k=l.length:=by omega
  have hr:Hid (GA l x=-1):=ab.o fun j hj=>hN.o j hj hj;go_wp2;go_ret;exact⟨Oj hr.o.symm,rfl⟩
end Sh
end
section
open Go.RowKit Go.Shelf
namespace Ci
open Nt
theorem Sj:(prog.info? 37).map (fun i=>(i.zero,i.size,i.bytes))=some (some (.slice none 0 0),1,24):=by kernel_rfl
theorem Sk:(prog.info? 3).map (fun i=>(i.zero,i.size,i.bytes))=some (some (.int .i64 0),1,8):=by kernel_rfl
def Cn(E:List (Nat×Nat))(k p:Nat):List Nat:=((E.take k).filter fun x=>decide (x.1=p)).map (·.2)
theorem PA{E:List (Nat×Nat)}{k:Nat}(h:k<E.length)(p:Nat):Cn E (k+1) p=Ez (Cn E k) E[k].1 E[k].2 p:=by
 unfold Cn Ez;rw[zO h,yL,zw]
 by_cases e:E[k].1=p
 .rw[zD e.symm,zk,zD (by simpa using e)];rfl
 rw[zC (fun c=>e c.symm),zk,zC (by simpa using e)];simp
theorem L6{E:List (Nat×Nat)}{p q:Nat}:q∈Cn E E.length p<->(p,q)∈E:=by
 unfold Cn;rw[zn];simp only[vX,List.mem_filter,yG];constructor
 .rintro⟨x,⟨h1,rfl⟩,rfl⟩;exact h1
 exact fun h=>⟨(p,q),⟨h,rfl⟩,rfl⟩
theorem Sm(s:SR)(Ap Ac Av:Option Addr)(cp cc cv:Nat)(w:World)(hs:StIn w s Ap Ac Av)(hn:s.ps.length<=100)(aY:s.cap.length<=300)(aI:∀x,x∈s.cap->(0<=x.1/\x.1<s.ps.length)/\(0<=x.2.1/\x.2.1<s.ps.length)):
 Calls prog 42 #[.agg #[.slice Ap s.ps.length cp,.slice Ac s.cap.length cc,.slice Av s.vot.length cv]] w fun e w'=>(∃R v,e=.returned (.slice (some ⟨R,0,none⟩) s.ps.length s.ps.length)/\Gr w' w.heap.size R s.ps.length v (Cn (Ag s) (Ag s).length))/\Below w.heap.size w w':=by
 have aX:=wT (P:=prog) 94 37 (.slice none 0 0) 24 underlying94 Sj rfl .i64 .i64 s.ps.length (by omega) (by omega);have aq:Hid (Bk (w.alloc (.cells #[.slice Ap s.ps.length cp,.slice Ac s.cap.length cc,.slice Av s.vot.length cv] 32)) w.heap.size 32 (SC s Ap Ac Av cp cc cv)):=Bk.new w _ _;have aD:Hid (Below w.heap.size w (w.alloc (.cells #[.slice Ap s.ps.length cp,.slice Ac s.cap.length cc,.slice Av s.vot.length cv] 32))):=(zI _ w).alloc (zB _) _;have u0:=aq.o.c0;have u1:=aq.o.c1;have u9:=aq.o.lt
 have aL:Hid (Gr ((w.alloc (.cells #[.slice Ap s.ps.length cp,.slice Ac s.cap.length cc,.slice Av s.vot.length cv] 32)).alloc (.cells (madeCells #[(.slice none 0 0:Value)] s.ps.length) 37)) w.heap.size (w.heap.size+1) s.ps.length (fun _=>.slice none 0 0) (Cn (Ag s) 0)):=by
  have h:=Gr.start (w.alloc (.cells #[.slice Ap s.ps.length cp,.slice Ac s.cap.length cc,.slice Av s.vot.length cv] 32)) (B:=w.heap.size) (by simp) s.ps.length 37;rw[zX]at h;exact h.congr fun i _=>rfl
 have aJ:Hid (Below w.heap.size w ((w.alloc (.cells #[.slice Ap s.ps.length cp,.slice Ac s.cap.length cc,.slice Av s.vot.length cv] 32)).alloc (.cells (madeCells #[(.slice none 0 0:Value)] s.ps.length) 37))):=aD.o.alloc aD.o.size _;have aH:=zh (aq.o.alloc (.cells (madeCells #[(.slice none 0 0:Value)] s.ps.length) 37));have v1:=aH.o.c1;have v9:=aH.o.lt;obtain⟨i0,ay,aT⟩:=Option.map_eq_some_iff.1 Sk;simp only[Prod.mk.injEq]at aT;obtain⟨aA,aB,aC⟩:=aT;replace ay:=zh ay;replace aA:=zh aA;replace aB:=zh aB;replace aC:=zh aC;have ax:Hid ((Ag s).length=s.cap.length):=by unfold Hid Ag;simp
 have aV:Hid (∀k p,(Cn (Ag s) k p).length<=300):=fun k p=>by
  unfold Cn;rw[zW];have h1:=zr (fun x:Nat×Nat=>decide (x.1=p)) ((Ag s).take k);have h2:((Ag s).take k).length<=(Ag s).length:=wk _ _;have:=ax.o;omega
 replace hs:=zh hs;replace aI:=zh aI;go_enter func42,ntmps42;go_wp2;clear aX u0 u1 u9 v1 v9
 go_loopw [13] (fun i wr=>∃(k:Nat)(v:Nat->Value),k<=s.cap.length/\i=.int .i64 (k:Int)/\Hid (Below w.heap.size w wr)/\Hid (Gr wr w.heap.size (w.heap.size+1) s.ps.length v (Cn (Ag s) k))) (fun i _=>s.cap.length-(intOf i).toNat)
 case atStart=>exact⟨0,_,zQ _,rfl,aJ,aL⟩
 case round=>
  obtain⟨k,v,hk,rfl,hB,hG⟩:=hrel;clear aq aD aL aJ aH
  by_cases hlt:k<s.cap.length
  .obtain ⟨b,o,rfl,aW,aO⟩:=(hs.o.below hB.o).cap (by omega);obtain⟨e1,e2,e3,e4,e5⟩:=aO k hlt;have aP:=aI.o s.cap[k] (zN hlt)
   have am:Hid (∀p,Cn (Ag s) (k+1) p=Ez (Cn (Ag s) k) s.cap[k].2.1.toNat s.cap[k].1.toNat p):=fun p=>by
    have h:=PA (E:=Ag s) (k:=k) (by rw[ax.o];exact hlt) p;have h2:(Ag s)[k]'(by rw[ax.o];exact hlt)=(s.cap[k].2.1.toNat,s.cap[k].1.toNat):=by unfold Ag;simp
    rw[h2]at h;exact h
   obtain⟨x,hx⟩:∃x,x=s.cap[k]:=⟨_,rfl⟩;rw[<-hx]at e1 e2 e3 e4 e5 aP am;obtain⟨coI,az,g,nn,dd⟩:=x;obtain⟨⟨i1,i2⟩,i3,i4⟩:=aP;replace i1:0<=coI:=i1;replace i2:coI<s.ps.length:=i2;replace i3:0<=az:=i3;replace i4:az<s.ps.length:=i4;obtain⟨co,rfl⟩:∃c:Nat,coI=(c:Int):=⟨coI.toNat,by omega⟩;obtain⟨ho,rfl⟩:∃c:Nat,az=(c:Int):=⟨az.toNat,by omega⟩;replace e1:wr.cell? ⟨b,o+k*5,none⟩=some (.int .i64 (co:Int)):=e1;replace e2:wr.cell? ⟨b,o+k*5+1,none⟩=some (.int .i64 (ho:Int)):=e2;replace e3:wr.cell? ⟨b,o+k*5+2,none⟩=some (.bool g):=e3;replace e4:wr.cell? ⟨b,o+k*5+3,none⟩=some (.string nn):=e4;replace e5:wr.cell? ⟨b,o+k*5+4,none⟩=some (.string dd):=e5;replace am:Hid (∀p,Cn (Ag s) (k+1) p=Ez (Cn (Ag s) k) ho co p):=fun p=>by have h:=am.o p;simpa using h
   replace hx:=zh hx;have j0:(0:Int)<=(k:Int):=by omega
   have j1:(k:Int)<(s.cap.length:Int):=by omega
   have ap:ho<s.ps.length:=by omega
   have ao:Hid (Bk (wr.alloc (.cells #[.int .i64 (co:Int),.int .i64 (ho:Int),.bool g,.string nn,.string dd] 106)) wr.heap.size 106 [.int .i64 (co:Int),.int .i64 (ho:Int),.bool g,.string nn,.string dd]):=Bk.new wr _ _;have ag:=zh (hB.o.alloc hB.o.size (.cells #[.int .i64 (co:Int),.int .i64 (ho:Int),.bool g,.string nn,.string dd] 106));have ai:=zh (hG.o.alloc (.cells #[.int .i64 (co:Int),.int .i64 (ho:Int),.bool g,.string nn,.string dd] 106));have aw:w.heap.size+1<wr.heap.size:=hG.o.lt;clear aO
   go_wp2_with fail
   obtain⟨W1,aM⟩:∃W,W=wr.alloc (.cells #[.int .i64 (co:Int),.int .i64 (ho:Int),.bool g,.string nn,.string dd] 106):=⟨_,rfl⟩;rw[<-aM]at ao ag ai ⊢;obtain⟨xb,aS⟩:∃b,b=wr.heap.size:=⟨_,rfl⟩;rw[<-aS]at ao aw ⊢;obtain⟨vh,ah⟩:∃x,x=v ho:=⟨_,rfl⟩;have ar:=ai.o.hd ho ap;have aj:=zh (ai.o.rows ho ap);rw[<-ah]at ar aj
   have aR:Hid (vh.ownBlock≠some xb):=fun e=>by
    have h1:=(hG.o.rows ho ap).lt xb (by rw[<-ah];exact e);omega
   have aQ:Hid (vh.ownBlock≠some (w.heap.size+1)):=by rw[ah];exact hG.o.ne ho ap
   replace ah:=zh ah;clear aS;clear aM hB hG e1 e2 e3 e4 e5 aW;have af:=ai.o.lt;have aZ:=ao.o.lt
   have HO:Hid (∀W,Below W1.heap.size W1 W->W.cell? ⟨xb,0,none⟩=some (.int .i64 (co:Int))/\W.cell? ⟨xb,1,none⟩=some (.int .i64 (ho:Int))):=fun W h=>
    ⟨(ao.o.below h).c0,(ao.o.below h).c1⟩
   have aN:=aV.o k ho;have q0:(0:Int)<=(ho:Int):=by omega
   have q1:(ho:Int)<(s.ps.length:Int):=by omega
   refine yx ?_;refine yq (S:=fun W=>W.cell? ⟨xb,0,none⟩=some (.int .i64 (co:Int))/\W.cell? ⟨xb,1,none⟩=some (.int .i64 (ho:Int))) (by kernel_rfl) (HO.o _ (zI _ _).drew) (fun ae=>?_);replace ae:=zh ae;refine tkgG (v:=?_) 0 rfl (ae.o) (Or.inl ⟨by rfl,?_⟩) ?_;rotate_left
   . (intro w aa;obtain⟨q1,q2⟩:=aa;go_simp<;>with_reducible rfl)
   try simp only[Act.put,zA]
   refine tkgG (v:=?_) 1 rfl (ae.o) (Or.inl ⟨by rfl,?_⟩) ?_;rotate_left
   . (intro w aa;obtain⟨q1,q2⟩:=aa;go_simp<;>with_reducible rfl)
   try simp only[Act.put]
   refine tkgG (v:=?_) 2 rfl (ae.o) (Or.inl ⟨by rfl,?_⟩) ?_;rotate_left
   . (intro w aa;obtain⟨q1,q2⟩:=aa;go_simp<;>with_reducible rfl)
   try simp only[Act.put]
   refine tkgG (v:=?_) 3 rfl (ae.o) (Or.inl ⟨by rfl,?_⟩) ?_;rotate_left
   . (intro w aa;obtain⟨q1,q2⟩:=aa;go_simp<;>with_reducible rfl)
   try simp only[Act.put]
   refine tkgG (v:=?_) 4 rfl (ae.o) (Or.inl ⟨by rfl,?_⟩) ?_;rotate_left
   . (intro w aa;obtain⟨q1,q2⟩:=aa;go_simp<;>with_reducible rfl)
   try simp only[Act.put]
   refine tkgG (v:=?_) 5 rfl (ae.o) (Or.inl ⟨by rfl,?_⟩) ?_;rotate_left
   . (intro w aa;obtain⟨q1,q2⟩:=aa;go_simp<;>with_reducible rfl)
   try simp only[Act.put]
   refine tkgG (v:=?_) 6 rfl (ae.o) (Or.inl ⟨by rfl,?_⟩) ?_;rotate_left
   . (intro w aa;obtain⟨q1,q2⟩:=aa;go_simp<;>with_reducible rfl)
   try simp only[Act.put]
   refine tkgG (v:=?_) 8 rfl (ae.o) (Or.inl ⟨by rfl,?_⟩) ?_;rotate_left
   . (intro w aa;obtain⟨q1,q2⟩:=aa;go_simp<;>with_reducible rfl)
   try simp only[Act.put]
   refine tkgG (v:=?_) 9 rfl (ae.o) (Or.inl ⟨by rfl,?_⟩) ?_;rotate_left
   . (intro w aa;obtain⟨q1,q2⟩:=aa;go_simp<;>with_reducible rfl)
   try simp only[Act.put]
   have aK:Hid (Below W1.heap.size W1 W1.drew):=(zI _ W1).drew;have d:Hid (Below W1.heap.size W1 (W1.alloc (.cells #[.int .i64 (co:Int)] 3)).drew):=((zI _ W1).alloc (zB _) _).drew;refine zU (rs:=[7,10]) (by kernel_rfl) (by simp) ?_;refine zK (o:=_) rfl (fun K hK=>?_) ?_
   .have hh:=(aK.o.cell (p:=⟨w.heap.size+1,ho,none⟩) af).trans ar;go_simp;clear hh;refine hK.o _ _ (HO.o _ aK.o) (fun _=>?_);clear hK K
    try simp only[Act.put,zA,zF,zE]
    refine zU (rs:=[10]) (by kernel_rfl) (by simp) ?_;refine zK (o:=_) rfl (fun K hK=>?_) ?_
    .go_simp;refine hK.o _ _ (HO.o _ d.o) (fun _=>?_);clear hK K
     try simp only[Act.put,zA,zF,zE]
     refine zU (rs:=[11]) (by kernel_rfl) (by simp) ?_;refine zK (o:=_) rfl (fun K hK=>?_) ?_
     .rw [zD (by rfl)];refine AI _ _ _ 37 rfl w.heap.size 3 i0 (.int .i64 0) 1 8 underlying37 ay.o aA.o aB.o aC.o rfl (by decide) vh (Cn (Ag s) k ho).length (Bw (Cn (Ag s) k ho)) rfl (AC aj.o d.o) ⟨W1.heap.size,0,none⟩ 1 1 [.int .i64 (co:Int)] rfl rfl (BH W1 _ _) (AM _ rfl) (by omega) (by unfold maxLen;omega) (by omega) (ag.o.trans (d.o.mono ag.o.size)).size ?_;intro vb wb an ab au;have ad:Hid (Bk wb xb 106 [.int .i64 (co:Int),.int .i64 (ho:Int),.bool g,.string nn,.string dd]):=(ao.o.below d.o).grown ab (fun e=>aR.o e.symm);have ak:=zh (ag.o.trans (d.o.mono ag.o.size));have aE:Hid (Below w.heap.size w wb):=ak.o.grown ab ak.o.size (fun b e=>(aj.o.lt b e).1)
      have aG:Hid (Gr (wb.setCell ⟨w.heap.size+1,ho,none⟩ vb) w.heap.size (w.heap.size+1) s.ps.length (fun i=>if i=ho then vb else v i) (Cn (Ag s) (k+1))):=by
       have h:=((ai.o.alloc (.cells #[.int .i64 (co:Int)] 3)).drew).step (q:=co) ap (u:=vb) (W':=wb) (by rw[<-ah.o];exact ab) an (by rw[<-ah.o];exact au);exact h.congr fun i _=>(am.o i).symm
      have aF:Hid (Below w.heap.size w (wb.setCell ⟨w.heap.size+1,ho,none⟩ vb)):=aE.o.setCell (p:=⟨w.heap.size+1,ho,none⟩) (xo _) _;have al:=ab.block (w.heap.size+1) (zJ af d.o.size) (fun e=>aQ.o e.symm);have y1:=(zT (a:=⟨w.heap.size+1,ho,none⟩) al).trans ((d.o.cell (p:=⟨w.heap.size+1,ho,none⟩) af).trans ar);have y2:=(yF (a:=⟨w.heap.size+1,ho,none⟩) al).trans ((d.o.frozen (p:=⟨w.heap.size+1,ho,none⟩) af).trans (ai.o.fr ho));have y3:w.heap.size+1<wb.heap.size:=zJ (zJ af d.o.size) ab.size
      rcases an.2 with⟨_,av⟩|⟨g9,cap9,cur9,rfl,_⟩
      .exact absurd av (by omega)
      clear an ab au am d al ak;refine hK.o _ _ ⟨ad.o.c0,ad.o.c1⟩ (fun _=>?_);clear hK K
      try simp only[Act.put,zA]
      refine tkgG (v:=?_) 12 rfl (⟨ad.o.c0,ad.o.c1⟩) (Or.inl ⟨by rfl,?_⟩) ?_;rotate_left
      . (intro w aa;obtain⟨q1,q2⟩:=aa;go_simp<;>with_reducible rfl)
      try simp only[Act.put]
      refine zU (rs:=[13]) (by kernel_rfl) (by simp) ?_;refine zK (o:=_) rfl (fun K hK=>?_) ?_
      .go_simp;refine hK.o _ _ ⟨(ad.o.far (p:=⟨w.heap.size+1,ho,none⟩) (vL aw) _).c0,(ad.o.far (p:=⟨w.heap.size+1,ho,none⟩) (vL aw) _).c1⟩ (fun _=>?_);clear hK K
       try simp only[Act.put,zA,zF,zE]
       refine yz (by kernel_rfl) ?_ _;refine yX ?_;clear y1 y2 y3 HO aN;go_wp2
       go_roundw
       case rel=>exact⟨k+1,_,by omega,by go_num,aF,aG⟩
       case measure=>simp[intOf];omega
      exact zR
     exact zR
    exact zR
   refine zK (o:=_) rfl (fun K hK=>?_) ?_
   .go_simp;refine hK.o _ _ (HO.o _ d.o) (fun _=>?_);clear hK K
    try simp only[Act.put,zA,zF,zE]
    refine zU (rs:=[7]) (by kernel_rfl) (by simp) ?_;refine zK (o:=_) rfl (fun K hK=>?_) ?_
    .have hh:=(d.o.cell (p:=⟨w.heap.size+1,ho,none⟩) af).trans ar;go_simp;clear hh;refine hK.o _ _ (HO.o _ d.o) (fun _=>?_);clear hK K
     try simp only[Act.put,zA,zF,zE]
     refine zU (rs:=[11]) (by kernel_rfl) (by simp) ?_;refine zK (o:=_) rfl (fun K hK=>?_) ?_
     .rw [zD (by rfl)];refine AI _ _ _ 37 rfl w.heap.size 3 i0 (.int .i64 0) 1 8 underlying37 ay.o aA.o aB.o aC.o rfl (by decide) vh (Cn (Ag s) k ho).length (Bw (Cn (Ag s) k ho)) rfl (AC aj.o d.o) ⟨W1.heap.size,0,none⟩ 1 1 [.int .i64 (co:Int)] rfl rfl (BH W1 _ _) (AM _ rfl) (by omega) (by unfold maxLen;omega) (by omega) (ag.o.trans (d.o.mono ag.o.size)).size ?_;intro vb wb an ab au;have ad:Hid (Bk wb xb 106 [.int .i64 (co:Int),.int .i64 (ho:Int),.bool g,.string nn,.string dd]):=(ao.o.below d.o).grown ab (fun e=>aR.o e.symm);have ak:=zh (ag.o.trans (d.o.mono ag.o.size));have aE:Hid (Below w.heap.size w wb):=ak.o.grown ab ak.o.size (fun b e=>(aj.o.lt b e).1)
      have aG:Hid (Gr (wb.setCell ⟨w.heap.size+1,ho,none⟩ vb) w.heap.size (w.heap.size+1) s.ps.length (fun i=>if i=ho then vb else v i) (Cn (Ag s) (k+1))):=by
       have h:=((ai.o.alloc (.cells #[.int .i64 (co:Int)] 3)).drew).step (q:=co) ap (u:=vb) (W':=wb) (by rw[<-ah.o];exact ab) an (by rw[<-ah.o];exact au);exact h.congr fun i _=>(am.o i).symm
      have aF:Hid (Below w.heap.size w (wb.setCell ⟨w.heap.size+1,ho,none⟩ vb)):=aE.o.setCell (p:=⟨w.heap.size+1,ho,none⟩) (xo _) _;have al:=ab.block (w.heap.size+1) (zJ af d.o.size) (fun e=>aQ.o e.symm);have y1:=(zT (a:=⟨w.heap.size+1,ho,none⟩) al).trans ((d.o.cell (p:=⟨w.heap.size+1,ho,none⟩) af).trans ar);have y2:=(yF (a:=⟨w.heap.size+1,ho,none⟩) al).trans ((d.o.frozen (p:=⟨w.heap.size+1,ho,none⟩) af).trans (ai.o.fr ho));have y3:w.heap.size+1<wb.heap.size:=zJ (zJ af d.o.size) ab.size
      rcases an.2 with⟨_,av⟩|⟨g9,cap9,cur9,rfl,_⟩
      .exact absurd av (by omega)
      clear an ab au am d al ak;refine hK.o _ _ ⟨ad.o.c0,ad.o.c1⟩ (fun _=>?_);clear hK K
      try simp only[Act.put,zA]
      refine tkgG (v:=?_) 12 rfl (⟨ad.o.c0,ad.o.c1⟩) (Or.inl ⟨by rfl,?_⟩) ?_;rotate_left
      . (intro w aa;obtain⟨q1,q2⟩:=aa;go_simp<;>with_reducible rfl)
      try simp only[Act.put]
      refine zU (rs:=[13]) (by kernel_rfl) (by simp) ?_;refine zK (o:=_) rfl (fun K hK=>?_) ?_
      .go_simp;refine hK.o _ _ ⟨(ad.o.far (p:=⟨w.heap.size+1,ho,none⟩) (vL aw) _).c0,(ad.o.far (p:=⟨w.heap.size+1,ho,none⟩) (vL aw) _).c1⟩ (fun _=>?_);clear hK K
       try simp only[Act.put,zA,zF,zE]
       refine yz (by kernel_rfl) ?_ _;refine yX ?_;clear y1 y2 y3 HO aN;go_wp2
       go_roundw
       case rel=>exact⟨k+1,_,by omega,by go_num,aF,aG⟩
       case measure=>simp[intOf];omega
      exact zR
     exact zR
    exact zR
   exact zR
  obtain rfl:k=s.cap.length:=by omega
  have aU:Hid (Gr wr w.heap.size (w.heap.size+1) s.ps.length v (Cn (Ag s) (Ag s).length)):=by rw[ax.o];exact hG.o
  go_wp2;go_ret;exact⟨⟨_,v,rfl,aU.o⟩,hB.o⟩
end Ci
end
section
open Go.RowKit Go.Shelf
namespace Ci
open Nt
open Classical
theorem Gr.grown{W W':World}{B R n mb:Nat}{v:Nat->Value}{adj:Nat->List Nat}(h:Gr W B R n v adj)(hg:W.grownBy W' (some mb))(hR:R≠mb)(hv:∀i,i<n->(v i).ownBlock≠some mb):Gr W' B R n v adj:=by
 have hb:W'.heap[R]? = W.heap[R]?:=hg.block R h.lt fun e=>hR (Option.some.inj e)
 exact ⟨zJ h.lt hg.size,fun i hi=>(zT (a:=⟨R,i,none⟩) hb).trans (h.hd i hi),fun i=>(yF (a:=⟨R,i,none⟩) hb).trans (h.fr i),fun i hi=>(h.rows i hi).kept hg (by
  cases hu:(v i).ownBlock with
  |none=>exact .inl rfl
  |some b=>exact .inr fun e=>hv i hi (hu.trans e)),h.apart,h.ne,h.lowR⟩
noncomputable def bV(P:Prop):Bool:=@decide P (propDecidable P)
theorem Cp{P:Prop}(h:P):bV P=true:=@zG P (propDecidable P) h
theorem BR{P:Prop}(h:¬P):bV P=false:=@zH P (propDecidable P) h
theorem Xe{P:Prop}(h:bV P=true):P:=@zL P (propDecidable P) h
noncomputable def unv(n:Nat)(V:Nat->Prop):Nat:=((List.range n).filter fun x=>bV (¬V x)).length
theorem L7{n p:Nat}{V:Nat->Prop}(hp:p<n)(h:¬V p):unv n (fun x=>V x\/x=p)+1<=unv n V :=
 EV (fun _ _ hx=>Cp fun c=>(Xe hx) (.inl c)) ⟨p,List.mem_range.2 hp,BR fun c=>c (.inr rfl),Cp h⟩
theorem Sn{n:Nat}{V V':Nat->Prop}(h:∀x,V x->V' x):unv n V'<=unv n V:=by
 unfold unv
 have : ∀l:List Nat,(l.filter fun x=>bV (¬V' x)).length<=(l.filter fun x=>bV (¬V x)).length:=by
  intro l
  induction l with
  |nil=>exact zB _
  |cons a l ih=>
   rw[zk,zk]
   by_cases h1:V a
   .rw[BR (fun c=>c (h a h1)),BR (fun c=>c h1)];exact ih
   rw[Cp h1]
   cases bV (¬V' a)
   .simp only[Bool.false_eq_true,if_false,wm,zZ];omega
   simp only[wm,zZ];omega
 exact this _
def Nl(w:World)(n mb:Nat)(V:Nat->Prop):Prop:=∃c f,MapK prog 3 κi w mb c f/\c+unv n V<=n/\∀x:Nat,x<n->f (x:Int)=if V x then some (.bool true) else none
structure VEnv(w:World)(ob gb vb R n mb B:Nat)(v:Nat->Value)(adj:Nat->List Nat):Prop where
 o:Bk w ob 98 [.map (some mb)]
 g:Bk w gb 94 [.slice (some ⟨R,0,none⟩) n n]
 f:Bk w vb 145 [.func (.func 90) #[] #[.pointer (some ⟨ob,0,none⟩),.pointer (some ⟨gb,0,none⟩),.pointer (some ⟨vb,0,none⟩)]]
 gr:Gr w B R n v adj
 n1:ob≠mb
 n2:gb≠mb
 n3:vb≠mb
 n4:R≠mb
 n5:∀i,i<n->(v i).ownBlock≠some mb
theorem VEnv.grown{w w':World}{ob gb vb R n mb B:Nat}{v:Nat->Value}{adj:Nat->List Nat}(h:VEnv w ob gb vb R n mb B v adj)(hg:w.grownBy w' (some mb)):VEnv w' ob gb vb R n mb B v adj :=
 ⟨h.o.grown hg fun e=>h.n1 (Option.some.inj e),h.g.grown hg fun e=>h.n2 (Option.some.inj e),h.f.grown hg fun e=>h.n3 (Option.some.inj e),h.gr.grown hg h.n4 h.n5,h.n1,h.n2,h.n3,h.n4,h.n5⟩
theorem Ol(w:World):(zeroValue 4).run prog w=.ok (.bool false) w:=by kernel_rfl
def L8(E:List (Nat×Nat))(n mb p:Nat)(V:Nat->Prop)(w:World)(e:Ending)(w':World):Prop:=e=.returned (.tuple #[])/\w.grownBy w' (some mb)/\∃V',Nl w' n mb V'/\Vis E p V V'
theorem J4(E:List (Nat×Nat))(ob gb vb R n mb B:Nat)(v:Nat->Value)(adj:Nat->List Nat)(hn:n<=1000)(p:Nat)(V:Nat->Prop)(w:World)(hp:p<n)(hv:VEnv w ob gb vb R n mb B v adj)(hm:Nl w n mb V)(hV:V p):
 Calls prog 90 #[.int .i64 (p:Int),.pointer (some ⟨ob,0,none⟩),.pointer (some ⟨gb,0,none⟩),.pointer (some ⟨vb,0,none⟩)] w (L8 E n mb p V w):=by
 have hP:Hid (∀e,e=.returned (.tuple #[])->L8 E n mb p V w e w):=fun e he=>⟨he,World.grownBy.refl _ _,V,hm,Vis.had hV⟩;obtain⟨c,f,hM,_,hf⟩:=hm;have d:=hM.look FA underlying98 (Ol w) (Ew underlying3 (a:=(p:Int)) (by omega) (by omega));rw[hf p hp,zD hV]at d;replace d:(Instr.lookup 98 (.map (some mb)) (.int .i64 (p:Int)) false).run prog w=.ok (.bool true) w:=d;have c1:=hv.o.c0;have c2:=hv.o.lt;clear hM hf hv hV;go_enter func90,ntmps90;go_wp2;go_end0;exact hP.o _ rfl
theorem PB(E:List (Nat×Nat))(ob gb vb R n mb B:Nat)(v:Nat->Value)(adj:Nat->List Nat)(hn:n<=1000)(hE:∀p q,p<n->(q∈adj p<->(p,q)∈E))(aI:InN n E)(ai:∀p,p<n->(adj p).length<=10000000):
 ∀(N p:Nat)(V:Nat->Prop)(w:World),p<n->VEnv w ob gb vb R n mb B v adj->Nl w n mb V->unv n V<=N ->
  Calls prog 90 #[.int .i64 (p:Int),.pointer (some ⟨ob,0,none⟩),.pointer (some ⟨gb,0,none⟩),.pointer (some ⟨vb,0,none⟩)] w (L8 E n mb p V w):=by
 intro N
 induction N with
 |zero=>
  intro p V w hp hv hm hN;exact J4 E ob gb vb R n mb B v adj hn p V w hp hv hm (ww fun c=>by have:=L7 hp c;omega)
 |succ N ih=>
  intro p V w hp hv hm hN
  by_cases hV:V p
  .exact J4 E ob gb vb R n mb B v adj hn p V w hp hv hm hV
  have aQ:=L7 hp hV;have av:Hid (VisL E p [] V fun x=>V x\/x=p):=VisL.start E p V;obtain⟨c,f,hM,aO,hf⟩:=hm;have an:=Ew underlying3 (a:=(p:Int)) (by omega) (by omega);have aa:=hM.look FA underlying98 (Ol w) an;rw[hf p hp,zC hV]at aa;replace aa:(Instr.lookup 98 (.map (some mb)) (.int .i64 (p:Int)) false).run prog w=.ok (.bool false) w:=aa;obtain⟨w1,aD,ar,am⟩:=hM.put Gy FA underlying98 (by unfold maxLen;omega) an (.bool true)
  have au:Hid (Nl w1 n mb fun x=>V x\/x=p):=by
   refine⟨_,_,ar,?_,fun x hx=>?_⟩
   .rw[hf p hp,zC hV]
    show c+1+_<=n
    omega
   by_cases e:x=p
   .subst e;rw[Bg,zD (.inr rfl)]
   rw[Bj (fun h=>e (by omega)),hf x hx]
   by_cases h2:V x
   .rw[zD h2,zD (.inl h2)]
   rw[zC h2,zC fun h=>h.elim h2 e]
  have ad:=zh (hv.grown am);have ah:=zh am;have aJ:unv n (fun x=>V x\/x=p)<=N:=by omega
  have c1:=hv.o.c0;have c2:=hv.o.lt;have d1:=ad.o.o.c0;have d2:=ad.o.g.c0;have d3:=ad.o.gr.hd p hp;have d4:=ad.o.gr.lt;have ab:=hv.gr.rows p hp;have aN:=zh hv;have ax:Hid ((v p).ownBlock≠some mb):=hv.n5 p hp;have aP:=ai p hp;have p0:(0:Int)<=(p:Int):=by omega
  have p1:(p:Int)<(n:Int):=by omega
  have ihH:=zh ih;have ag:Hid (∀q,(p,q)∈E->q∈adj p):=fun q h=>(hE p q hp).2 h;have aB:Hid (∀q,q∈adj p->(p,q)∈E/\q<n):=fun q h=>⟨(hE p q hp).1 h,(aI _ ((hE p q hp).1 h)).2⟩;clear hM ar hf am an ih ai
  rcases Dp ab with⟨aj,af⟩|⟨g,cap,ap,_,aL,_,d⟩
  .rw [aj]at d3;have hP:Hid (∀e,e=.returned (.tuple #[])->L8 E n mb p V w e w1):=fun e he=>⟨he,ah.o,_,au.o,av.o.end fun q h=>by have:=ag.o q h;rw[af]at this;exact this⟩;clear ab aj af;go_enter func90,ntmps90;go_wp2
   go_loopw [17] (fun i wr=>i=.int .i64 0/\wr=w1) (fun _ _=>0)
   case atStart=>exact⟨rfl,rfl⟩
   case round=>
    obtain⟨rfl,rfl⟩:=hrel;go_wp2;go_end0;exact hP.o _ rfl
  rw[ap]at d3;rw[ap]at ax;have ay:g≠mb:=fun e=>ax.o (by rw[e];rfl);replace d:=zh d;have hP:Hid (∀e wz V',e=.returned (.tuple #[])->w.grownBy wz (some mb)->Nl wz n mb V'->VisL E p (adj p) V V'->L8 E n mb p V w e wz):=fun e wz V' h1 h2 h3 h4=>⟨h1,h2,V',h3,h4.end fun q h=>ag.o q h⟩;clear ab ap;go_enter func90,ntmps90;go_wp2
  go_loopw [17] (fun i wr=>∃(j:Nat)(V':Nat->Prop),j<=(adj p).length/\i=.int .i64 (j:Int)/\Hid (w.grownBy wr (some mb))/\Hid (Nl wr n mb V')/\Hid (VisL E p ((adj p).take j) V V')) (fun i _=>(adj p).length-(intOf i).toNat)
  case atStart=>exact⟨0,_,zQ _,rfl,ah,au,av⟩
  case round=>
   obtain⟨j,V',hj,rfl,hg,az,ae⟩:=hrel;clear aa aD c1 c2 d1 d2 d3 d4
   by_cases hlt:j<(adj p).length
   .obtain ⟨ao,aC⟩:=aB.o (adj p)[j] (zN hlt);have e1:=(zT (a:=⟨g,j,none⟩) (hg.o.block g aL fun e=>ay (Option.some.inj e))).trans (d.o j hlt);have aq:=zh (aN.o.grown hg.o)
    have aF:unv n V'<=N:=zS (Sn fun x hx=>by
     rcases hx with hx|rfl
     .exact ae.o.1 x hx
     exact ae.o.2.1) aJ
    have aE:Hid ((adj p).take (j+1)=(adj p).take j++[(adj p)[j]]):=zO hlt;obtain⟨q,hq⟩:∃x,x=(adj p)[j]:=⟨_,rfl⟩;rw[<-hq]at ao aC e1 aE;replace hq:=zh hq;have ihq:=zh (ihH.o q V' wr aC aq.o az.o aF);have al:=zh ao;have d1:=aq.o.f.c0;have d2:=aq.o.f.lt;have j0:(0:Int)<=(j:Int):=by omega
    have j1:(j:Int)<((adj p).length:Int):=by omega
    clear ao aF
    go_wp2_with fail
    refine ihq.o.q fun w2 ⟨aw,V2,aA,ak⟩=>?_;have aK:=zh (hg.o.trans aw);have aM:=zh aA;have aG:Hid (VisL E p ((adj p).take (j+1)) V V2):=by rw[aE.o];exact ae.o.step al.o ak
    clear aw aA ak e1 d1 d2;go_wp2
    go_roundw
    case rel=>exact⟨j+1,V2,by omega,by go_num,aK,aM,aG⟩
    case measure=>simp[intOf];omega
   obtain rfl:j=(adj p).length:=by omega
   have aH:Hid (VisL E p (adj p) V V'):=by have h:=ae.o;rwa [zn]at h
   go_wp2;go_end0;exact hP.o _ _ V' rfl hg.o az.o aH.o
def ReachM(w:World)(n mb:Nat)(E:List (Nat×Nat))(p:Nat):Prop:=∃c f,MapK prog 3 κi w mb c f/\∀x:Nat,x<n->f (x:Int)=if Reach E p x then some (.bool true) else none
def Xf(E:List (Nat×Nat))(n p:Nat)(w:World)(e:Ending)(w':World):Prop:=(∃mb,e=.returned (.map (some mb))/\w.heap.size<=mb/\ReachM w' n mb E p)/\Below w.heap.size w w'
theorem GZ(E:List (Nat×Nat))(R n B p:Nat)(v:Nat->Value)(adj:Nat->List Nat)(w:World)(hn:n<=1000)(hE:∀p q,p<n->(q∈adj p<->(p,q)∈E))(af:InN n E)(ad:∀p,p<n->(adj p).length<=10000000)(hp:p<n)(hG:Gr w B R n v adj):
 Calls prog 44 #[.slice (some ⟨R,0,none⟩) n n,.int .i64 (p:Int)] w (Xf E n p w):=by
 have am:=@run_makeMap prog
 have kv:=zh (fun ob gb vb mb W hv hm=>PB E ob gb vb R n mb B v adj hn hE af ad n p (fun _=>False) W hp hv hm (by
  have:=zr (fun x:Nat=>bV (¬False)) (List.range n);rw[yZ]at this;exact this))
 have s1:(w.alloc (.cells #[.slice (some ⟨R,0,none⟩) n n] 94)).heap.size=w.heap.size+1:=by simp
 have s2:((w.alloc (.cells #[.slice (some ⟨R,0,none⟩) n n] 94)).alloc (.map #[] 0)).heap.size=w.heap.size+1+1:=by simp
 have s3:(((w.alloc (.cells #[.slice (some ⟨R,0,none⟩) n n] 94)).alloc (.map #[] 0)).alloc (.cells #[.map (some (w.heap.size+1))] 98)).heap.size=w.heap.size+1+1+1:=by simp
 have g1:Bk (w.alloc (.cells #[.slice (some ⟨R,0,none⟩) n n] 94)) w.heap.size 94 [.slice (some ⟨R,0,none⟩) n n]:=Bk.new w _ _;have m2:MapK prog 3 κi ((w.alloc (.cells #[.slice (some ⟨R,0,none⟩) n n] 94)).alloc (.map #[] 0)) (w.heap.size+1) 0 (fun _=>none):=by have h:=MapK.made (w.alloc (.cells #[.slice (some ⟨R,0,none⟩) n n] 94)) prog 3 κi;rwa [s1]at h
 have o3:Bk (((w.alloc (.cells #[.slice (some ⟨R,0,none⟩) n n] 94)).alloc (.map #[] 0)).alloc (.cells #[.map (some (w.heap.size+1))] 98)) (w.heap.size+1+1) 98 [.map (some (w.heap.size+1))]:=by have h:=Bk.new ((w.alloc (.cells #[.slice (some ⟨R,0,none⟩) n n] 94)).alloc (.map #[] 0)) 98 [.map (some (w.heap.size+1))];rwa [s2]at h
 have f4:Bk ((((w.alloc (.cells #[.slice (some ⟨R,0,none⟩) n n] 94)).alloc (.map #[] 0)).alloc (.cells #[.map (some (w.heap.size+1))] 98)).alloc (.cells #[.nilFunc] 145)) (w.heap.size+1+1+1) 145 [.nilFunc]:=by have h:=Bk.new (((w.alloc (.cells #[.slice (some ⟨R,0,none⟩) n n] 94)).alloc (.map #[] 0)).alloc (.cells #[.map (some (w.heap.size+1))] 98)) 145 [.nilFunc];rwa [s3]at h
 have ah:Hid (Below w.heap.size w ((((w.alloc (.cells #[.slice (some ⟨R,0,none⟩) n n] 94)).alloc (.map #[] 0)).alloc (.cells #[.map (some (w.heap.size+1))] 98)).alloc (.cells #[.nilFunc] 145))):=((((zI _ w).alloc (zB _) _).alloc (by simp) _).alloc (by simp<;>omega) _).alloc (by simp<;>omega) _;have ae:Hid (Below w.heap.size w ((((w.alloc (.cells #[.slice (some ⟨R,0,none⟩) n n] 94)).alloc (.map #[] 0)).alloc (.cells #[.map (some (w.heap.size+1))] 98)).alloc (.cells #[.func (.func 90) #[] #[.pointer (some ⟨w.heap.size+1+1,0,none⟩),.pointer (some ⟨w.heap.size,0,none⟩),.pointer (some ⟨w.heap.size+1+1+1,0,none⟩)]] 145))):=((((zI _ w).alloc (zB _) _).alloc (by simp) _).alloc (by simp<;>omega) _).alloc (by simp<;>omega) _;have f5:Bk ((((w.alloc (.cells #[.slice (some ⟨R,0,none⟩) n n] 94)).alloc (.map #[] 0)).alloc (.cells #[.map (some (w.heap.size+1))] 98)).alloc (.cells #[.func (.func 90) #[] #[.pointer (some ⟨w.heap.size+1+1,0,none⟩),.pointer (some ⟨w.heap.size,0,none⟩),.pointer (some ⟨w.heap.size+1+1+1,0,none⟩)]] 145)) (w.heap.size+1+1+1) 145 [.func (.func 90) #[] #[.pointer (some ⟨w.heap.size+1+1,0,none⟩),.pointer (some ⟨w.heap.size,0,none⟩),.pointer (some ⟨w.heap.size+1+1+1,0,none⟩)]]:=by have h:=Bk.new (((w.alloc (.cells #[.slice (some ⟨R,0,none⟩) n n] 94)).alloc (.map #[] 0)).alloc (.cells #[.map (some (w.heap.size+1))] 98)) 145 [.func (.func 90) #[] #[.pointer (some ⟨w.heap.size+1+1,0,none⟩),.pointer (some ⟨w.heap.size,0,none⟩),.pointer (some ⟨w.heap.size+1+1+1,0,none⟩)]];rwa [s3]at h
 have c1:=f4.c0;have c2:=f4.frozen 0;have c3:=f4.lt
 have aa:Hid (VEnv ((((w.alloc (.cells #[.slice (some ⟨R,0,none⟩) n n] 94)).alloc (.map #[] 0)).alloc (.cells #[.map (some (w.heap.size+1))] 98)).alloc (.cells #[.func (.func 90) #[] #[.pointer (some ⟨w.heap.size+1+1,0,none⟩),.pointer (some ⟨w.heap.size,0,none⟩),.pointer (some ⟨w.heap.size+1+1+1,0,none⟩)]] 145)) (w.heap.size+1+1) w.heap.size (w.heap.size+1+1+1) R n (w.heap.size+1) B v adj):=by
  have al:=hG.lt;refine⟨o3.alloc _,((g1.alloc _).alloc _).alloc _,f5,hG.below (ae.o),by omega,by omega,by omega,by omega,fun i hi e=>?_⟩;have:=((hG.rows i hi).lt _ e).2;omega
 have aj:Hid (Nl ((((w.alloc (.cells #[.slice (some ⟨R,0,none⟩) n n] 94)).alloc (.map #[] 0)).alloc (.cells #[.map (some (w.heap.size+1))] 98)).alloc (.cells #[.func (.func 90) #[] #[.pointer (some ⟨w.heap.size+1+1,0,none⟩),.pointer (some ⟨w.heap.size,0,none⟩),.pointer (some ⟨w.heap.size+1+1+1,0,none⟩)]] 145)) n (w.heap.size+1) fun _=>False):=by
  refine⟨0,_,(m2.alloc _).alloc _,?_,fun x _=>(zC fun h=>h).symm⟩;have:=zr (fun x:Nat=>bV (¬False)) (List.range n);rw[yZ]at this
  show 0+((List.range n).filter fun x=>bV (¬False)).length<=n
  omega
 have o5:=aa.o.o.c0;clear s1 s2 s3 g1 m2 o3 f4 f5 ah;replace hG:=zh hG;clear hE af ad;go_enter func44,ntmps44
 go_wp2_with fail
 refine(kv.o _ _ _ _ _ aa.o aj.o).q fun w6 ⟨ab,V',ag,d⟩=>?_;have o6:=(aa.o.grown ab).o.c0;have o7:=(aa.o.grown ab).o.lt;have ai:Hid (Below w.heap.size w w6):=ae.o.grown ab ae.o.size (fun b e=>by cases e;exact xo _)
 have ak:Hid (ReachM w6 n (w.heap.size+1) E p):=by
  obtain⟨c,f,h1,_,h2⟩:=ag;refine⟨c,f,h1,fun x hx=>?_⟩;rw[h2 x hx]
  by_cases hr:Reach E p x
  .rw[zD hr,zD ((d.reach x).2 hr)]
  rw[zC hr,zC fun h=>hr ((d.reach x).1 h)]
 clear ab ag d o5 c1 c2 c3;go_wp2;go_ret;exact⟨⟨_,rfl,xo _,ak.o⟩,ai.o⟩
end Ci
end
section
open Go.RowKit Go.Shelf
namespace Ci
open Nt
theorem PC{w:World}{base m:Nat}{e:TypeId}{v:Value}{xs:List Value}(h:w.ownsRow base e 1 v (m+1) xs):∃g cap,v=.slice (some ⟨g,0,none⟩) (m+1) cap:=by
 rcases h.2 with⟨_,h0⟩|⟨g,cap,_,rfl,_⟩
 .omega
 exact⟨g,cap,rfl⟩
def TurnI(n i j:Nat)(adj T:Nat->List Nat):Prop:=(∀q x,q<n->(x∈T q<->(x<i/\q∈adj x)\/(x=i/\q∈(adj i).take j)))/\∀q,(T q).length<=1000*i+j
theorem TurnI.next{n i:Nat}{adj T:Nat->List Nat}(h:TurnI n i (adj i).length adj T)(hl:(adj i).length<=1000):TurnI n (i+1) 0 adj T:=by
 refine⟨fun q x hq=>?_,fun q=>by have:=h.2 q;omega⟩;rw[h.1 q x hq,zn];constructor
 .rintro(⟨a,b⟩|⟨rfl,b⟩)
  .exact .inl ⟨by omega,b⟩
  exact .inl ⟨by omega,b⟩
 rintro(⟨a,b⟩|⟨_,b⟩)
 .by_cases e:x=i
  .subst e;exact .inr ⟨rfl,b⟩
  exact .inl ⟨by omega,b⟩
 simp at b
theorem TurnI.step{n i j:Nat}{adj T:Nat->List Nat}(h:TurnI n i j adj T)(hj:j<(adj i).length):TurnI n i (j+1) adj (Ez T (adj i)[j] i):=by
 refine⟨fun q x hq=>?_,fun q=>?_⟩
 .unfold Ez;rw[zO hj]
  by_cases e:q=(adj i)[j]
  .rw [zD e,yQ,h.1 q x hq,yQ,ym,ym];constructor
   .rintro((a|⟨a,b⟩)|a)
    .exact .inl a
    .exact .inr ⟨a,.inl b⟩
    exact .inr ⟨a,.inr e⟩
   rintro(a|⟨a,b|_⟩)
   .exact .inl (.inl a)
   .exact .inl (.inr ⟨a,b⟩)
   exact .inr a
  rw[zC e,h.1 q x hq,yQ,ym];constructor
  .rintro(a|⟨a,b⟩)
   .exact .inl a
   exact .inr ⟨a,.inl b⟩
  rintro(a|⟨a,b|b⟩)
  .exact .inl a
  .exact .inr ⟨a,b⟩
  exact absurd b e
 unfold Ez;have:=h.2 q
 split
 .rw[zV,xU];omega
 omega
theorem Nm(R n B:Nat)(v:Nat->Value)(adj:Nat->List Nat)(w:World)(hn:n<=100)(ai:∀p,p<n->(adj p).length<=1000)(ap:∀p q,p<n->q∈adj p->q<n)(hG:Gr w B R n v adj):
 Calls prog 43 #[.slice (some ⟨R,0,none⟩) n n] w fun e w'=>(∃R' v' T,e=.returned (.slice (some ⟨R',0,none⟩) n n)/\Gr w' w.heap.size R' n v' T/\TurnI n n 0 adj T)/\Below w.heap.size w w':=by
 -- for 14
 have aN:=wT (P:=prog) 94 37 (.slice none 0 0) 24 underlying94 Sj rfl .i64 .i64 n (by omega) (by omega);have az:Hid (Gr (w.alloc (.cells (madeCells #[(.slice none 0 0:Value)] n) 37)) w.heap.size w.heap.size n (fun _=>.slice none 0 0) fun _=>[]):=Gr.start w (zB _) n 37;have ax:Hid (Below w.heap.size w (w.alloc (.cells (madeCells #[(.slice none 0 0:Value)] n) 37))):=(zI _ w).alloc (zB _) _;have aA:Hid (TurnI n 0 0 adj fun _=>[]):=⟨fun q x _=>⟨fun h=>(by cases h),fun h=>(by rcases h with⟨h,_⟩|⟨_,h⟩<;>simp at h)⟩,fun _=>zQ _⟩;obtain⟨i0,ao,aG⟩:=Option.map_eq_some_iff.1 Sk;simp only[Prod.mk.injEq]at aG;obtain⟨au,av,aw⟩:=aG;replace ao:=zh ao;replace au:=zh au;replace av:=zh av;replace aw:=zh aw;replace hG:=zh hG;replace ai:=zh ai;replace ap:=zh ap;go_enter func43,ntmps43;go_wp2;clear aN
 go_loopw [13] (fun ix wr=>∃(i:Nat)(v':Nat->Value)(T:Nat->List Nat),i<=n/\ix=.int .i64 (i:Int)/\Hid (Below w.heap.size w wr)/\Hid (Gr wr w.heap.size w.heap.size n v' T)/\Hid (TurnI n i 0 adj T)) (fun ix _=>n-(intOf ix).toNat)
 case atStart=>exact⟨0,_,_,zQ _,rfl,ax,az,aA⟩
 case round=>
  obtain⟨i,v',T,hi,rfl,hB,am,hT⟩:=hrel;clear ax az aA
  by_cases aj:i<n
  .have aD:=ai.o i aj;have hd:=(hB.o.cell (p:=⟨R,i,none⟩) hG.o.lt).trans (hG.o.hd i aj);have j0:(0:Int)<=(i:Int):=by omega
   have j1:(i:Int)<(n:Int):=by omega
   rcases Dp (hG.o.rows i aj) with⟨al,ak⟩|⟨g,cap,aF,_,aM,_,d⟩
   .rw [al]at hd
    have ag:Hid (TurnI n (i+1) 0 adj T):=by
     have h:=hT.o;refine TurnI.next ?_ aD;rw[ak];exact h
    clear al ak;go_wp2
    go_loopw [20] (fun ix wz=>ix=.int .i64 0/\wz=wr) (fun _ _=>0)
    case atStart=>exact⟨rfl,rfl⟩
    case round=>
     obtain⟨rfl,rfl⟩:=hrel;go_wp2;exact⟨⟨i+1,v',T,by omega,by go_num,hB,am,ag⟩,by simp only[intOf];omega⟩
   rw[aF]at hd;replace d:=zh d;clear aF;go_wp2
   go_loopw [20] (fun ix wz=>∃(j:Nat)(v2:Nat->Value)(T2:Nat->List Nat),j<=(adj i).length/\ix=.int .i64 (j:Int)/\Hid (Below w.heap.size w wz)/\Hid (Gr wz w.heap.size w.heap.size n v2 T2)/\Hid (TurnI n i j adj T2)) (fun ix _=>(adj i).length-(intOf ix).toNat)
   case atStart=>exact⟨0,v',T,zQ _,rfl,hB,am,hT⟩
   case round=>
    obtain⟨j,v2,T2,hj,rfl,ae,ab,ag⟩:=hrel
    by_cases hjl:j<(adj i).length
    .have hq:=ap.o i (adj i)[j] aj (zN hjl);have e1:=(ae.o.cell (p:=⟨g,j,none⟩) aM).trans (d.o j hjl);have aB:=zh (ag.o.step hjl);obtain⟨q,ar⟩:∃x,x=(adj i)[j]:=⟨_,rfl⟩;rw[<-ar]at hq e1 aB;replace ar:=zh ar;obtain⟨vh,ad⟩:∃x,x=v2 q:=⟨_,rfl⟩;have aC:=ab.o.hd q hq;have aL:=ab.o.fr q;have aP:=ab.o.lt;have aa:=ab.o.rows q hq;rw[<-ad]at aC aa;have aO:Hid (vh.ownBlock≠some w.heap.size):=by rw[ad];exact ab.o.ne q hq
     replace ad:=zh ad;replace aa:=zh aa;have aQ:=ag.o.2 q;have aR:=ae.o.size;have ay:Hid (Below w.heap.size w (wr.alloc (.cells #[.int .i64 (i:Int)] 3))):=ae.o.alloc ae.o.size _;have af:=zh (ab.o.alloc (.cells #[.int .i64 (i:Int)] 3));have aK:Hid (World.cell? (wr.alloc (.cells #[.int .i64 (i:Int)] 3)) ⟨w.heap.size,q,none⟩=some vh):=by rw[ad.o];exact af.o.hd q hq
     have q0:(0:Int)<=(q:Int):=by omega
     have q1:(q:Int)<(n:Int):=by omega
     have q2:(0:Int)<=(j:Int):=by omega
     have q3:(j:Int)<((adj i).length:Int):=by omega
     go_wp2_with (at_builtin;refine wpList_append_new _ rfl _ _ 37 rfl w.heap.size 3 i0 (.int .i64 0) 1 8 underlying37 ao.o au.o av.o aw.o rfl (by decide) vh (T2 q).length (Bw (T2 q)) rfl (aa.o.alloc _) ⟨wr.heap.size,0,none⟩ 1 1 [.int .i64 (i:Int)] rfl rfl (BH _ _ _) (AM _ rfl) (by omega) (by unfold maxLen;omega) (by omega) (by simp;omega) ?_;intro vb wb aq ah aE;have aI:Hid (Gr (wb.setCell ⟨w.heap.size,q,none⟩ vb) w.heap.size w.heap.size n (fun x=>if x=q then vb else v2 x) (Ez T2 q i)):=(af.o.step hq (by rw[<-ad.o];exact ah) aq (by rw[<-ad.o];exact aE));have aH:Hid (Below w.heap.size w (wb.setCell ⟨w.heap.size,q,none⟩ vb)):=((ay.o.grown ah ay.o.size (fun b e=>(aa.o.lt b e).1)).setCell (p:=⟨w.heap.size,q,none⟩) (zB _) _);have an:=ah.block w.heap.size af.o.lt (fun e=>aO.o e.symm);have y1:=(zT (a:=⟨w.heap.size,q,none⟩) an).trans aK.o;have y2:=(yF (a:=⟨w.heap.size,q,none⟩) an).trans (af.o.fr q);have y3:w.heap.size<wb.heap.size:=zJ af.o.lt ah.size;obtain⟨g9,cap9,rfl⟩:=PC aq;clear aq ah aE an aC aL)
     exact⟨⟨j+1,_,_,by omega,by go_num,aH,aI,aB⟩,by simp only[intOf];omega⟩
    obtain rfl:j=(adj i).length:=by omega
    have aJ:=zh (ag.o.next aD);go_wp2;exact⟨⟨i+1,v2,T2,by omega,by go_num,ae,ab,aJ⟩,by simp only[intOf];omega⟩
  obtain rfl:i=n:=by omega
  go_wp2;go_ret;exact⟨⟨_,v',T,rfl,am.o,hT.o⟩,hB.o⟩
structure Kp(xs:List Nat)(w w':World):Prop where
 os:w'.os=w.os
 tape:w'.tape=w.tape
 output:w'.output=w.output
 size:w.heap.size<=w'.heap.size
 block:∀k,k<w.heap.size->k∉xs->w'.heap[k]? = w.heap[k]?
section
variable {xs:List Nat} {w w' w'':World} {B R n i b c mb:Nat} {v:Nat->Value} {adj ls:Nat->List Nat} {α:Type} {P:Program} {k:TypeId} {κ:α->Lit} {f:α->Option Value} {t:TypeId} {cs:List Value}
theorem Kp.refl(xs:List Nat)(w:World):Kp xs w w:=⟨rfl,rfl,rfl,zB _,fun _ _ _=>rfl⟩
theorem Kp.below(h:Kp xs w w')(hb:Below w'.heap.size w' w''):Kp xs w w'' :=
 ⟨hb.os.trans h.os,hb.tape.trans h.tape,hb.output.trans h.output,zS h.size hb.size,fun k hk hx=>(hb.block k (zJ hk h.size)).trans (h.block k hk hx)⟩
theorem Kp.alloc(h:Kp xs w w')(o:Obj):Kp xs w (w'.alloc o):=h.below ((zI _ w').alloc (zB _) o)
theorem Kp.drew(h:Kp xs w w'):Kp xs w w'.drew:=h.below (zI _ w').drew
theorem Kp.grown{row:Option Nat}(h:Kp xs w w')(hg:w'.grownBy w'' row)(hr:∀b,row=some b->b∈xs\/w.heap.size<=b):Kp xs w w'' :=
 ⟨hg.os.trans h.os,hg.tape.trans h.tape,hg.output.trans h.output,zS h.size hg.size,fun k hk hx=>(hg.block k (zJ hk h.size) (fun e=>by
   rcases hr k e.symm with h1|h1
   .exact hx h1
   omega)).trans (h.block k hk hx)⟩
theorem Au(w:World)(a:Addr)(u:Value):w.grownBy (w.setCell a u) (some a.block):=⟨rfl,rfl,rfl,by simp,fun k _ hk=>ze _ _ _ _ (fun e=>hk (by rw[e]))⟩
theorem L9(w:World)(o:Obj)(row:Option Nat):w.grownBy (w.alloc o) row:=⟨rfl,rfl,rfl,by simp,fun k hk _=>heap_alloc_old w o hk⟩
theorem Kp.set(h:Kp xs w w'){a:Addr}(u:Value)(ha:a.block∈xs\/w.heap.size<=a.block):Kp xs w (w'.setCell a u):=h.grown (Au w' a u) fun b e=>by cases e;exact ha
theorem Kp.to_below(h:Kp xs w w'){w0:World}(h0:Below w0.heap.size w0 w)(hx:∀x,x∈xs->w0.heap.size<=x):Below w0.heap.size w0 w' :=
 h0.trans ⟨h.os,h.tape,h.output,h.size,fun k hk=>h.block k (zJ hk h0.size) fun e=>by have:=hx k e;omega⟩
theorem Kp.heap(h:Kp xs w w')(hb:b<w.heap.size)(hx:b∉xs):w'.heap[b]? = w.heap[b]?:=h.block b hb hx
theorem Gr.of_block(h:Gr w B R n v adj)(hs:w.heap.size<=w'.heap.size)(hR:w'.heap[R]? = w.heap[R]?)(hv:∀i b,i<n->(v i).ownBlock=some b->w'.heap[b]? = w.heap[b]?):Gr w' B R n v adj :=
 ⟨zJ h.lt hs,fun i hi=>(zT (a:=⟨R,i,none⟩) hR).trans (h.hd i hi),fun i=>(yF (a:=⟨R,i,none⟩) hR).trans (h.fr i),fun i hi=>by
   obtain⟨h1,h2⟩:=h.rows i hi;refine⟨h1,?_⟩
   rcases h2 with h2|⟨g,cap,cur,d,hg,hh,rest⟩
   .exact .inl h2
   exact .inr ⟨g,cap,cur,d,hg,(hv i g hi (by rw[d];rfl)).trans hh,rest⟩,h.apart,h.ne,h.lowR⟩
theorem Gr.kp(h:Gr w B R n v adj)(hk:Kp xs w w')(hR:R∉xs)(hv:∀i b,i<n->(v i).ownBlock=some b->b∉xs):Gr w' B R n v adj :=
 h.of_block hk.size (hk.block R h.lt hR) fun i b hi e=>hk.block b ((h.rows i hi).lt b e).2 (hv i b hi e)
theorem MapK.kp(h:MapK P k κ w b c f)(hk:Kp xs w w')(hb:b∉xs):MapK P k κ w' b c f:=h.block (hk.block b h.lt hb)
theorem Bk.kp(h:Bk w b t cs)(hk:Kp xs w w')(hb:b∉xs):Bk w' b t cs:=by
 have e:=hk.block b h.lt hb;exact(show w'.heap[b]? = _ from e.trans h)
structure LM(w:World)(B mb n c:Nat)(v:Nat->Value)(ls:Nat->List Nat):Prop where
 map:∃f:Int->Option Value,MapK prog 3 κi w mb c f/\∀x:Nat,x<n->f (x:Int)=if ls x=[] then none else some (v x)
 nil:∀x,x<n->ls x=[]->v x=.slice none 0 0
 rows:∀x,x<n->w.ownsRow B 3 1 (v x) (ls x).length (Bw (ls x))
 apart:∀i j,i<n->j<n->i≠j->Pj (v i) (v j)
 ne:∀x,x<n->(v x).ownBlock≠some mb
theorem LM.lt(h:LM w B mb n c v ls):mb<w.heap.size:=by obtain⟨f,h,_⟩:=h.map;exact h.lt
theorem LM.grown{row:Option Nat}(h:LM w B mb n c v ls)(hg:w.grownBy w' row)(hm:row≠some mb)(hv:∀x b,x<n->(v x).ownBlock=some b->row≠some b):LM w' B mb n c v ls:=by
 obtain⟨f,h1,h2⟩:=h.map;refine⟨⟨f,h1.kept hg fun e=>hm e.symm,h2⟩,h.nil,fun x hx=>(h.rows x hx).kept hg ?_,h.apart,h.ne⟩
 cases hu:(v x).ownBlock with
 |none=>exact .inl rfl
 |some b=>exact .inr fun e=>hv x b hx hu e.symm
theorem LM.set(h:LM w B mb n c v ls){a:Addr}(u:Value)(hm:a.block≠mb)(hv:∀x,x<n->(v x).ownBlock≠some a.block):LM (w.setCell a u) B mb n c v ls :=
 h.grown (Au w a u) (fun e=>hm (Option.some.inj e)) fun x b hx e e2=>hv x hx (by rw[e,e2])
theorem LM.alloc(h:LM w B mb n c v ls)(o:Obj):LM (w.alloc o) B mb n c v ls:=h.grown (L9 w o none) (by simp) fun _ _ _ _=>by simp
theorem LM.drew(h:LM w B mb n c v ls):LM w.drew B mb n c v ls:=⟨h.map,h.nil,h.rows,h.apart,h.ne⟩
theorem LM.below(h:LM w B mb n c v ls)(hb:Below w.heap.size w w'):LM w' B mb n c v ls :=
 h.grown (row:=none) ⟨hb.os,hb.tape,hb.output,hb.size,fun k hk _=>hb.block k hk⟩ (by simp) fun _ _ _ _=>by simp
theorem LM.made(w:World)(B n:Nat):LM (w.alloc (.map #[] 0)) B w.heap.size n 0 (fun _=>.slice none 0 0) fun _=>[] :=
 ⟨⟨_,MapK.made w _ _ _,fun _ _=>(zD rfl).symm⟩,fun _ _ _=>rfl,fun _ _=>yO _ _ _ _,fun _ _ _ _ _ _ hb=>(by cases hb),fun _ _ h=>(by cases h)⟩
theorem So(w:World):(zeroValue 37).run prog w=.ok (.slice none 0 0) w:=by kernel_rfl
theorem LM.look(h:LM w B mb n c v ls){x:Nat}(hx:x<n)(hn:n<=1000):(Instr.lookup 97 (.map (some mb)) (.int .i64 (x:Int)) false).run prog w=.ok (v x) w:=by
 obtain⟨f,h1,h2⟩:=h.map;have:=h1.look FA underlying97 (So w) (Ew underlying3 (a:=(x:Int)) (by omega) (by omega));rw[this,h2 x hx]
 by_cases e:ls x=[]
 .rw[zD e,h.nil x hx e];rfl
 rw[zC e];rfl
theorem LM.step(h:LM w B mb n c v ls){x q:Nat}(hx:x<n)(hn:n<=1000)(hc:c<maxLen){u:Value}(hg:w.grownBy w' (v x).ownBlock)(ho:w'.ownsRow B 3 1 u ((ls x).length+1) (Bw (ls x)++[.int .i64 (q:Int)]))(hu:u.ownBlock=(v x).ownBlock\/u.ownBlock=some w.heap.size):
 ∃w'',(Instr.mapUpdate 97 (.map (some mb)) (.int .i64 (x:Int)) u).run prog w'=.ok () w''/\LM w'' B mb n (if ls x=[] then c+1 else c) (fun i=>if i=x then u else v i) (Ez ls x q)/\w'.grownBy w'' (some mb):=by
 obtain⟨f,h1,h2⟩:=h.map;have ad:some mb≠(v x).ownBlock:=fun e=>h.ne x hx e.symm;have ai:=h.lt
 have ag:u.ownBlock≠some mb:=fun e=>by
  rcases hu with hu|hu
  .exact ad (by rw[<-hu,e])
  rw[e]at hu;simp only[Option.some.injEq]at hu;omega
 obtain⟨w'',af,hM,aa⟩:=(h1.kept hg ad).put Gy FA underlying97 hc (Ew underlying3 (a:=(x:Int)) (by omega) (by omega)) u
 have d:∀i,i<n->i≠x->Pj (v i) u:=fun i hi ah b hb e=>by
  rcases hu with hu|hu
  .exact h.apart i x hi hx ah b hb (by rw[<-hu,e])
  have:=((h.rows i hi).lt b hb).2;rw[e]at hu;simp only[Option.some.injEq]at hu;omega
 have ae:Ez ls x q x≠[]:=by simp[Ez]
 refine⟨w'',af,⟨⟨HH f (x:Int) (some u),?_,fun y hy=>?_⟩,fun y hy he=>?_,fun y hy=>?_,fun i j hi hj ab=>?_,fun y hy=>?_⟩,aa⟩
 .have e:(if (f (x:Int)).isSome then c else c+1)=if ls x=[] then c+1 else c:=by
   rw[h2 x hx]
   by_cases e:ls x=[]
   .rw[zD e,zD e];rfl
   rw[zC e,zC e];rfl
  rw[e]at hM;exact hM
 .by_cases e:y=x
  .subst e;rw[Bg,zC ae,zD rfl]
  rw[Bj (fun c=>e (by omega)),h2 y hy,zC e];have:Ez ls x q y=ls y:=zC e;rw[this]
 .by_cases e:y=x
  .subst e;exact absurd he ae
  rw[zC e];have:Ez ls x q y=ls y:=zC e;rw[this]at he;exact h.nil y hy he
 .by_cases e:y=x
  .subst e;rw[zD rfl];have:Ez ls y q y=ls y++[q]:=zD rfl;rw[this,zV,Ei];refine ho.kept aa ?_
   cases hv:u.ownBlock with
   |none=>exact .inl rfl
   |some b=>exact .inr fun c=>ag (by rw[hv,c])
  rw[zC e];have:Ez ls x q y=ls y:=zC e;rw[this];refine((h.rows y hy).kept hg ?_).kept aa ?_
  .cases hv:(v y).ownBlock with
   |none=>exact .inl rfl
   |some b=>exact .inr fun c=>h.apart y x hy hx e b hv c.symm
  cases hv:(v y).ownBlock with
  |none=>exact .inl rfl
  |some b=>exact .inr fun c=>h.ne y hy (by rw[hv,c])
 .by_cases e1:i=x
  .have e2:j≠x:=fun c=>ab (by rw[e1,c]);rw[zD e1,zC e2];exact fun b hb hc=>d j hj e2 b hc hb
  rw[zC e1]
  by_cases e2:j=x
  .rw[zD e2];exact d i hi e1
  rw[zC e2];exact h.apart i j hi hj ab
 by_cases e:y=x
 .rw[zD e];exact ag
 rw[zC e];exact h.ne y hy
theorem CK{W:World}{base n:Nat}{e:TypeId}{u:Value}{xs:List Value}(h:W.ownsRow base e 1 u n xs):∃A cap,u=.slice A n cap:=by
 rcases h.2 with⟨rfl,rfl⟩|⟨g,cap,_,rfl,_⟩
 .exact⟨none,0,rfl⟩
 exact⟨_,cap,rfl⟩
theorem Sp{xs:List Nat}{base m:Nat}{e:TypeId}{u:Value}{l:List Value}{w:World}(h:w.ownsRow base e 1 u m l)(hk:Kp xs w w')(hb:∀b,u.ownBlock=some b->b∉xs):w'.ownsRow base e 1 u m l:=by
 obtain⟨h1,h2⟩:=h;refine⟨h1,?_⟩
 rcases h2 with h2|⟨g,cap,cur,hv,hg,hh,rest⟩
 .exact .inl h2
 exact .inr ⟨g,cap,cur,hv,hg,(hk.block g (Array.getElem?_eq_some_iff.1 hh).1 (hb g (by rw[hv];rfl))).trans hh,rest⟩
structure RoI(w:World)(b n:Nat)(o:Nat->Int):Prop where
 lt:b<w.heap.size
 cell:∀x,x<n->w.cell? ⟨b,x,none⟩=some (.int .i64 (o x))
 fr:∀x,w.frozen? ⟨b,x,none⟩=false
theorem RoI.of_block{o:Nat->Int}(h:RoI w b n o)(hs:w.heap.size<=w'.heap.size)(hb:w'.heap[b]? = w.heap[b]?):RoI w' b n o :=
 ⟨zJ h.lt hs,fun x hx=>(zT (a:=⟨b,x,none⟩) hb).trans (h.cell x hx),fun x=>(yF (a:=⟨b,x,none⟩) hb).trans (h.fr x)⟩
theorem RoI.below{o:Nat->Int}(h:RoI w b n o)(hb:Below w.heap.size w w'):RoI w' b n o:=h.of_block hb.size (hb.block b h.lt)
theorem RoI.grown{o:Nat->Int}{row:Option Nat}(h:RoI w b n o)(hg:w.grownBy w' row)(hr:row≠some b):RoI w' b n o:=h.of_block hg.size (hg.block b h.lt fun e=>hr e.symm)
theorem RoI.alloc{o:Nat->Int}(h:RoI w b n o)(x:Obj):RoI (w.alloc x) b n o:=h.below ((zI _ w).alloc (zB _) x)
theorem RoI.set{o:Nat->Int}(h:RoI w b n o){x:Nat}(hx:x<n)(r:Int):RoI (w.setCell ⟨b,x,none⟩ (.int .i64 r)) b n (Ea o x r):=by
 refine⟨by simpa using h.lt,fun y hy=>?_,fun y=>by simpa using h.fr y⟩
 by_cases e:y=x
 .subst e;rw[Bb];exact yV _ _ _ (h.cell y hy)
 rw[AJ e,yD _ _ _ _ (fun c=>by injection c with _ c2;first|exact e c2|exact e c2.symm)];exact h.cell y hy
theorem RoI.made(w:World)(n:Nat)(t:TypeId):RoI (w.alloc (.cells (madeCells #[.int .i64 0] n) t)) w.heap.size n fun _=>0:=by
 have h:=yR w (.cells (madeCells #[(.int .i64 0:Value)] n) t);refine⟨by simp,fun x hx=>?_,fun x=>by simp only[World.frozen?,h];simp⟩;simp only[World.cell?,h];simp[madeCells,hx];rw[vW];rfl
theorem RoI.of_row{r:Int}{t:TypeId}(h:w.heap[b]? = some (.cells (List.replicate n (.int .i64 r)).toArray t (0,0))):RoI w b n fun _=>r:=by
 refine⟨(Array.getElem?_eq_some_iff.1 h).1,fun x hx=>?_,fun x=>by simp[World.frozen?,h]⟩;simp[World.cell?,h,hx]
theorem RoI.congr{o o':Nat->Int}(h:RoI w b n o)(e:∀x,x<n->o x=o' x):RoI w b n o':=⟨h.lt,fun x hx=>by rw[<-e x hx];exact h.cell x hx,h.fr⟩
end
end Ci
end
section
open Go.RowKit Go.Shelf
namespace Nt
theorem LA{q:Rat}(h:OkQ q):EE (rq q):=by
 have:=AT (AP h);unfold EE rq;exact⟨by have:=this.1;dsimp only;omega,by have:=this.2;dsimp only;omega⟩
theorem DP{w w':World}{B:Nat}{t:TypeId}{size:Nat}{v:Value}{n:Nat}{xs:List Value}(h:w.ownsRow B t size v n xs)(hb:Below w.heap.size w w'):w'.ownsRow B t size v n xs :=
 h.kept (row:=none) ⟨hb.os,hb.tape,hb.output,hb.size,fun k hk _=>hb.block k hk⟩ (by cases hv:v.ownBlock<;>simp)
theorem Nn{n k i:Nat}{M M':Mx}(hO:∀a b,a<n->b<=n->OkQ (M a b))(h:BL SQ n k i M=some M'):∀a b,a<n->b<=n->OkQ (M' a b):=by
 unfold BL at h
 split at h
 .simp only[Option.some.injEq]at h;rw[<-h];exact hO
 split at h
 .rename_i hs;simp only[Option.some.injEq]at h;rw[<-h];have hk:=(Fc SQ).1 hs;intro a b ha hb;unfold Dq
  split
  .rename_i hc;obtain⟨h1,h2,h3,h4⟩:=hk b hc.2 hb;exact Ob (zL h3) (zL h4)
  exact hO a b ha hb
 cases h
theorem PD{n k:Nat}{M:Mx}(hO:∀a b,a<n->b<=n->OkQ (M a b)):∀{i:Nat} {M':Mx},i<=n->AL SQ n k i M=some M'->∀a b,a<n->b<=n->OkQ (M' a b):=by
 intro i
 induction i with
 |zero=>intro M' _ h;simp only[AL,Option.some.injEq]at h;rw[<-h];exact hO
 |succ i ih=>
  intro M' hi h;simp only[AL,Option.bind_eq_some_iff]at h;obtain⟨M1,h1,h2⟩:=h;exact Nn (ih (by omega) h1) h2
theorem Lz{n k:Nat}{M M':Mx}(hk:k<n)(hO:∀a b,a<n->b<=n->OkQ (M a b))(h:CQ SQ n k M=.ok M'):∀a b,a<n->b<=n->OkQ (M' a b):=by
 unfold CQ at h
 split at h
 .cases h
 rename_i p hp;obtain⟨p1,p2,p3,_⟩:=FC (by omega) hp
 have ad:∀a b,a<n->b<=n->OkQ (By k p M a b):=fun a b ha hb=>by
  unfold By
  split
  .exact hO p b p2 hb
  split
  .exact hO k b hk hb
  exact hO a b ha hb
 split at h
 .rename_i hd;have d:=(Fb SQ).1 hd;have ab:By k p M k k≠0:=by unfold By;rw[zD rfl];exact p3
  have aa:∀a b,a<n->b<=n->OkQ (Bn k (By k p M) a b):=fun a b ha hb=>by
   unfold Bn
   split
   .rename_i hc;obtain⟨h1,h2⟩:=d b hc.2 hb;exact Oc (zL h1) (zL h2) ab
   exact ad a b ha hb
  split at h
  .rename_i M2 h2;simp only[Except.ok.injEq]at h;rw[<-h];exact PD aa (zB n) h2
  cases h
 cases h
def Apart(u v:Value):Prop:=∀b,u.ownBlock=some b->v.ownBlock≠some b
theorem Apart.symm{u v:Value}(h:Apart u v):Apart v u:=fun b h1 h2=>h b h2 h1
section
variable {w w':World} {base:Nat} {e:TypeId} {size:Nat} {u v v':Value} {n:Nat} {xs:List Value}
theorem BK{P:Program}(t ty e:TypeId)(i:TypeInfo)(z:Value)(size bytes:Nat)(ht:P.underlying t=some (.slice e))(hi:P.info? e=some i)(hz:i.zero=some z)
 (ae:i.size=size)(ai:i.bytes=bytes)(v:Value)(n:Nat)(xs:List Value)(aa:w.ownsRow base e size v n xs)
 (a:Addr)(m c:Nat)(news:List Value)(hl:news.length=m*size)(d:∀j u,news[j]? = some u->w.cell? (a.add j)=some u)(h1:∀u∈news,u.oneCell'=true)(hm:0<m)
 (ah:n+m<=maxLen)(h:(n+m)*bytes<=140737488355328){v':Value}{w':World}(hr:(Builtin.append_ #[t,t] ty #[v,.slice (some a) m c]).run P w=.ok v' w'):
 v'.ownBlock=v.ownBlock\/v'.ownBlock=some w.heap.size:=by
 subst ae;subst ai;have ag:n+m<=9223372036854775807:=by simp only[maxLen]at ah;omega
 rcases aa.2 with⟨rfl,rfl⟩|⟨g,cap,cur,rfl,_,hg,_,ak,aj,_⟩
 .have ab:=run_append_nil (P:=P) w t ty e i z ht hi hz a m c news hl d (by omega) (by omega) (by have hb:=h;simp only[yE]at hb;omega);rw[ab]at hr;simp only[Result.ok.injEq]at hr;rw[<-hr.1];exact .inr rfl
 by_cases hroom:n+m<=cap
 .have af:n*i.size+news.length<=cur.size:=by rw[hl,aj,<-yS];exact yv _ hroom
  have ab:=run_append_room (P:=P) w t ty e i ht hi g n cap cur hg a m c news hl d h1 hroom af;rw[ab]at hr;simp only[Result.ok.injEq]at hr;rw[<-hr.1];exact .inl rfl
 have ad:∀j u,xs[j]? = some u->w.cell? ((⟨g,0,none⟩:Addr).add j)=some u:=aa.cells (g:=g) rfl;have ab:=run_append_grow (P:=P) w t ty e i z ht hi hz ⟨g,0,none⟩ n cap xs aa.1 ad a m c news hl d (by omega) (by omega) (growslice_fits (by omega) h);rw[ab]at hr;simp only[Result.ok.injEq]at hr;rw[<-hr.1];exact .inr rfl
end
theorem wpList_append_new{P:Program}(w:World){ops:Array Oper}{rest:List Oper}{o:Oper}{a:Act}{Q:Exit->Act->World->Prop}(ai:o.guard=none)(s x:Operand)(t:TypeId)
 (ho:o.op=.call { callee:=.builtin .append,args:=#[s,x],argTypes:=#[t,t] })
 (base:Nat)(e:TypeId)(i:TypeInfo)(z:Value)(size bytes:Nat)(ht:P.underlying t=some (.slice e))(hi:P.info? e=some i)(hz:i.zero=some z)
 (ab:i.size=size)(ah:i.bytes=bytes)(ak:z.cells.size=size)(aj:0<size)
 (v:Value)(n:Nat)(xs:List Value)(hs:a.eval s=v)(ae:w.ownsRow base e size v n xs)
 (ad:Addr)(m c:Nat)(news:List Value)(hx:a.eval x=.slice (some ad) m c)(hl:news.length=m*size)(aa:∀j u,news[j]? = some u->w.cell? (ad.add j)=some u)(h1:∀u∈news,u.oneCell'=true)(hm:0<m)
 (ag:n+m<=maxLen)(d:(n+m)*bytes<=140737488355328)(af:base<=w.heap.size)
 (h:∀v' w',w'.ownsRow base e size v' (n+m) (xs++news)->w.grownBy w' v.ownBlock->(v'.ownBlock=v.ownBlock\/v'.ownBlock=some w.heap.size)->wpList P ops Q rest (a.put o.dst v') w'):wpList P ops Q (o::rest) a w :=
 wpList_plain ai fun _ hK=>by
  obtain⟨v',w',hr,h2,h3,_⟩:=wg (P:=P) w base t o.type e i z size bytes ht hi hz ab ah ak aj v n xs ae ad m c news hl aa h1 ag d af;have h5:=BK (P:=P) t o.type e i z size bytes ht hi hz ab ah v n xs ae ad m c news hl aa h1 hm ag d hr;unfold Oper.wp execOp;simp only[ho,resolve,invoke,builtin,vR,wv,wK,wO,yy,vO,hs,hx,hr];exact hK _ _ (h v' w' h2 h3 h5)
theorem AM(v:Value)(h:v.oneCell'=true):∀u∈[v],u.oneCell'=true:=fun u hu=>by rw[List.mem_singleton.1 hu];exact h
theorem BH(w:World)(v:Value)(t:TypeId):∀j u,[v][j]? = some u->(w.alloc (.cells #[v] t)).cell? (Addr.add ⟨w.heap.size,0,none⟩ j)=some u:=by
 intro j u hj
 match j,hj with
 |0,hj=>simp at hj;subst hj;simp[Addr.add]
 |j+1,hj=>simp at hj
end Nt
end
section
open Go.RowKit Go.Shelf
namespace Nt
def hdr(x:RowH):Value:=.slice x.1 x.2.2.length x.2.1
def Sq:RowH:=(none,0,[])
structure Qd(W:World)(B n:Nat)(la:List RowH)(lb:List Raw)(y7 y9 y8 z:Nat)(v7 v8 v9 v11:Value)(R:Nat->Value):Prop where
 o7:W.ownsRow B 39 1 v7 y7 ((List.range y7).map fun i=>hdr (la.getD (n-1-i) Sq))
 o9:W.ownsRow B 48 3 v9 y9 (AN y9 fun i=>lb.getD (n-1-i) zraw)
 o8:W.ownsRow B 39 1 v8 y8 ((List.range y8).map R)
 oR:∀i,i<y8->W.ownsRow B 48 3 (R i) n (AN n fun j=>(la.getD i Sq).2.2.getD (n-1-j) zraw)
 o11:W.ownsRow B 48 3 v11 z (AN z fun j=>(la.getD y8 Sq).2.2.getD (n-1-j) zraw)
 a78:Apart v7 v8
 a79:Apart v7 v9
 a89:Apart v8 v9
 a17:Apart v11 v7
 a18:Apart v11 v8
 a19:Apart v11 v9
 r7:∀i,i<y8->Apart (R i) v7
 r8:∀i,i<y8->Apart (R i) v8
 r9:∀i,i<y8->Apart (R i) v9
 r1:∀i,i<y8->Apart (R i) v11
section
variable {W W':World} {B n:Nat} {la:List RowH} {lb:List Raw} {y7 y9 y8 z:Nat} {v7 v8 v9 v11 v':Value} {R:Nat->Value}
theorem Qd.below(h:Qd W B n la lb y7 y9 y8 z v7 v8 v9 v11 R)(hb:Below W.heap.size W W'):Qd W' B n la lb y7 y9 y8 z v7 v8 v9 v11 R :=
 ⟨DP h.o7 hb,DP h.o9 hb,DP h.o8 hb,fun i hi=>DP (h.oR i hi) hb,DP h.o11 hb,h.a78,h.a79,h.a89,h.a17,h.a18,h.a19,h.r7,h.r8,h.r9,h.r1⟩
theorem Qd.alloc(h:Qd W B n la lb y7 y9 y8 z v7 v8 v9 v11 R)(o:Obj):Qd (W.alloc o) B n la lb y7 y9 y8 z v7 v8 v9 v11 R:=h.below ((zI _ W).alloc (zB _) o)
end
theorem inMat_of_own{w:World}{base:Nat}{v:Value}{L:List RowH}(h:w.ownsRow base 39 1 v L.length (L.map hdr))(hr:∀x∈L,InRow w x.1 x.2.2):
 ∃A c,v=.slice A L.length c/\InMat w A L:=by
 rcases h.2 with⟨rfl,h0⟩|⟨g,cap,cur,rfl,hb,hg,h4,h5,h6,h7⟩
 .exact⟨none,0,by rw[h0],fun h=>absurd h (by omega)⟩
 refine⟨some ⟨g,0,none⟩,cap,rfl,fun h0=>⟨g,0,rfl,(Array.getElem?_eq_some_iff.1 hg).1,fun j hj=>?_⟩⟩;have hc:=h.cells (g:=g) (by simp[Value.ownBlock]) j (hdr L[j]) (by simp[hj]);have d:∀o,(⟨g,0,none⟩:Addr).add o=⟨g,o,none⟩:=fun o=>by unfold Addr.add;split<;>simp_all
 rw[d]at hc;rw[yE];exact⟨hc,hr _ (zN hj)⟩
theorem U0(Aa Ab:Option Addr)(ca cb:Nat)(la:List RowH)(lb:List Raw)(w:World)(hE:Env w)(hs:SysIn w Aa Ab la lb):
 Calls prog 39 #[.slice Aa la.length ca,.slice Ab lb.length cb] w fun e w'=>(∃p c,e=.returned (.tuple #[.slice p (VS (DD (BA la) lb)).length c,.int .i64 (XE (DD (BA la) lb))])/\InRow w' p (VS (DD (BA la) lb)))/\Below w.heap.size w w':=by
 cases h:DD (BA la) lb with
 |ok xs=>exact RW Aa Ab ca cb la lb xs w hE hs h
 |error er=>exact(RX Aa Ab ca cb la lb er w hE hs h).mono fun e w' h=>⟨⟨none,0,h.1,fun h=>absurd h (by simp[VS])⟩,h.2⟩
end Nt
end
section
open Go.RowKit Go.Shelf
namespace Nt
theorem CK{W:World}{base:Nat}{e:TypeId}{size:Nat}{v:Value}{n:Nat}{xs:List Value}(h:W.ownsRow base e size v n xs)(hn:0<n):
 ∃g cap,v=.slice (some ⟨g,0,none⟩) n cap/\base<=g/\g<W.heap.size/\(∀j,W.frozen? ⟨g,j,none⟩=false)/\∀j u,xs[j]? = some u->W.cell? ⟨g,j,none⟩=some u:=by
 rcases h.2 with⟨rfl,h0⟩|⟨g,cap,cur,rfl,hb,hg,_⟩
 .omega
 refine⟨g,cap,rfl,hb,(Array.getElem?_eq_some_iff.1 hg).1,fun j=>by simp[World.frozen?,hg],fun j u hj=>?_⟩;have hc:=h.cells (g:=g) (by simp[Value.ownBlock]) j u hj;have d:∀o,(⟨g,0,none⟩:Addr).add o=⟨g,o,none⟩:=fun o=>by unfold Addr.add;split<;>simp_all
 rwa [d]at hc
theorem AI{P:Program}(w:World){o:Oper}{a:Act}{K:Act->World->Prop}{Q:Exit->Act->World->Prop}(s x:Operand)(t:TypeId)
 (ho:o.op=.call { callee:=.builtin .append,args:=#[s,x],argTypes:=#[t,t] })
 (base:Nat)(e:TypeId)(i:TypeInfo)(z:Value)(size bytes:Nat)(ht:P.underlying t=some (.slice e))(hi:P.info? e=some i)(hz:i.zero=some z)
 (ab:i.size=size)(ah:i.bytes=bytes)(aj:z.cells.size=size)(ai:0<size)
 (v:Value)(n:Nat)(xs:List Value)(hs:a.eval s=v)(ae:w.ownsRow base e size v n xs)
 (ad:Addr)(m c:Nat)(news:List Value)(hx:a.eval x=.slice (some ad) m c)(hl:news.length=m*size)(aa:∀j u,news[j]? = some u->w.cell? (ad.add j)=some u)(h1:∀u∈news,u.oneCell'=true)(hm:0<m)
 (ag:n+m<=maxLen)(d:(n+m)*bytes<=140737488355328)(af:base<=w.heap.size)
 (h:∀v' w',w'.ownsRow base e size v' (n+m) (xs++news)->w.grownBy w' v.ownBlock->(v'.ownBlock=v.ownBlock\/v'.ownBlock=some w.heap.size)->K (a.put o.dst v') w'):o.wp P a w K Q:=by
 obtain⟨v',w',hr,h2,h3,_⟩:=wg (P:=P) w base t o.type e i z size bytes ht hi hz ab ah aj ai v n xs ae ad m c news hl aa h1 ag d af;have h5:=BK (P:=P) t o.type e i z size bytes ht hi hz ab ah v n xs ae ad m c news hl aa h1 hm ag d hr;unfold Oper.wp execOp;simp only[ho,resolve,invoke,builtin,vR,wv,wK,wO,yy,vO,hs,hx,hr];exact h v' w' h2 h3 h5
end Nt
end
section
open Go.RowKit Go.Shelf
namespace Sh
open Nt Ci
def Sr(k:Nat):Code->Bool
 |.region a _ _=>a==k
 |_=>false
theorem Om(s x y:Rat)(hs:ShortQ s)(hx:ShortQ x)(hy:ShortQ y)(d:ShortQ (x*y))(w:World)(hE:Env w):
 Calls prog 76 #[.agg #[.bool (rq s).1,.string (rq s).2.1,.string (rq s).2.2],.agg #[.bool (rq x).1,.string (rq x).2.1,.string (rq x).2.2],.agg #[.bool (rq y).1,.string (rq y).2.1,.string (rq y).2.2]] w fun e w'=>e=.returned (.agg #[.bool (rq (s+x*y)).1,.string (rq (s+x*y)).2.1,.string (rq (s+x*y)).2.2])/\Below w.heap.size w w' :=
 MK s x y hs hx hy d w hE
noncomputable def bdR(j:Nat):Code:=((Tryz.f38.body.map Ci.Bo).bind fun l=>l.find? (Sr j)).getD .skip
theorem XF{c0 c1 c2 c3 c4 c5 c7 c8 aq ar au av aw ax ay az aA aB aC aD aE aF aG aH aI aJ aK aL aM aN aO aP aQ aR aS aT aU aV aW aX aY aZ a0 a1 a2 a3 a4 a5 a6 a7 a8 a9 ba bb bc bd be bf bg bh bi bj bk bm bn bo bp bq br bs bt bu bv bw bx bz bA bB bC bD bE bF bG bH bI ah ai aj ak al am an ao bJ bK bL bM bN bO bP bQ bR bS bT:Value}{Q:Exit->Act->World->Prop}(mnb rb lb m k:Nat)(r:Nat->Raw)(q part:Rat)(c0v c1v:Value)(w:World)(hE:Env w)(hk:k<m)(_hm:m<=1000)(hr:RowB w rb m r)(bX:r k=rq q)(ad:Bk w mnb 48 [.bool (rq (-1)).1,.string (rq (-1)).2.1,.string (rq (-1)).2.2])(hl:Bk w lb 106 [c0v,c1v,.bool (rq part).1,.string (rq part).2.1,.string (rq part).2.2])(n1:rb≠mnb)(n2:rb≠lb)(h1:ShortQ q)(h2:ShortQ part)(h3:ShortQ (-1*part))
 (h:∀(u67 u68 u69 u70 u71 u72 u73 u74 u75 u76 u77:Value)(W:World)(_:Hid (RowB W rb m fun j=>if j=k then rq (q+-1*part) else r j))(_:Hid (Kp [rb] w W)),Q .normal ⟨#[c0,c1,c2,c3,c4,c5,.pointer (some ⟨mnb,0,none⟩),c7,c8,.slice (some ⟨rb,0,none⟩) m m,aq,ar,au,.pointer (some ⟨lb,0,none⟩),.int .i64 (k:Int),av,aw,ax,ay,az,aA,aB,aC,aD,aE,aF,aG,aH,aI,aJ,aK,aL,aM,aN,aO,aP,aQ,aR,aS,aT,aU,aV,aW,aX,aY,aZ,a0,a1,a2,a3,a4,a5,a6,a7,a8,a9,ba,bb,bc,bd,be,bf,bg,bh,bi,bj,bk,u67,u68,u69,u70,u71,u72,u73,u74,u75,u76,u77,bm,bn,bo,bp,bq,br,bs,bt,bu,bv,bw,bx,bz,bA,bB,bC,bD,bE,bF,bG,bH,bI,ah,ai,aj,ak,al,am,an,ao],[]⟩ W):
 Code.wp prog (bdR 19) Q ⟨#[c0,c1,c2,c3,c4,c5,.pointer (some ⟨mnb,0,none⟩),c7,c8,.slice (some ⟨rb,0,none⟩) m m,aq,ar,au,.pointer (some ⟨lb,0,none⟩),.int .i64 (k:Int),av,aw,ax,ay,az,aA,aB,aC,aD,aE,aF,aG,aH,aI,aJ,aK,aL,aM,aN,aO,aP,aQ,aR,aS,aT,aU,aV,aW,aX,aY,aZ,a0,a1,a2,a3,a4,a5,a6,a7,a8,a9,ba,bb,bc,bd,be,bf,bg,bh,bi,bj,bk,bJ,bK,bL,bM,bN,bO,bP,bQ,bR,bS,bT,bm,bn,bo,bp,bq,br,bs,bt,bu,bv,bw,bx,bz,bA,bB,bC,bD,bE,bF,bG,bH,bI,ah,ai,aj,ak,al,am,an,ao],[]⟩ w:=by
 conv=>arg 2;whnf
 conv=>arg 4;zeta
 replace h:=zh h;have af:Hid (Below w.heap.size w w.drew):=(zI _ w).drew;have kp:=zh (fun W hW=>Om q (-1) part h1 (by decide +kernel) h2 h3 W hW);have ap:Hid (RowB w.drew rb m r):=hr;have rl:=hr.lt;have ag:Hid (∀W,Below w.heap.size w W->W.cell? ⟨mnb,0,none⟩=some (.bool (rq (-1)).1)/\W.cell? ⟨mnb,1,none⟩=some (.string (rq (-1)).2.1)/\W.cell? ⟨mnb,2,none⟩=some (.string (rq (-1)).2.2)/\W.cell? ⟨lb,2,none⟩=some (.bool (rq part).1)/\W.cell? ⟨lb,3,none⟩=some (.string (rq part).2.1)/\W.cell? ⟨lb,4,none⟩=some (.string (rq part).2.2)):=fun W h=>⟨(ad.below h).c0,(ad.below h).c1,(ad.below h).c2,(hl.below h).c2,(hl.below h).c3,(hl.below h).c4⟩;have j0:(0:Int)<=(k:Int):=by omega
 have j1:(k:Int)<(m:Int):=by omega
 replace hE:=zh hE;replace hr:=zh hr;replace ad:=zh ad;replace hl:=zh hl;clear h1 h2 h3;refine yx ?_;refine yq (S:=fun W=>W.cell? ⟨mnb,0,none⟩=some (.bool (rq (-1)).1)/\W.cell? ⟨mnb,1,none⟩=some (.string (rq (-1)).2.1)/\W.cell? ⟨mnb,2,none⟩=some (.string (rq (-1)).2.2)/\W.cell? ⟨lb,2,none⟩=some (.bool (rq part).1)/\W.cell? ⟨lb,3,none⟩=some (.string (rq part).2.1)/\W.cell? ⟨lb,4,none⟩=some (.string (rq part).2.2)) (by kernel_rfl) (ag.o _ af.o) (fun aa=>?_);replace aa:=zh aa;refine tkgG (v:=?_) 0 rfl (aa.o) (Or.inl ⟨by rfl,?_⟩) ?_;rotate_left
 . (intro w d;obtain⟨q1,q2,q3,q4,q5,q6⟩:=d;go_simp<;>with_reducible rfl)
 try simp only[Act.put,zA]
 refine tkgG (v:=?_) 1 rfl (aa.o) (Or.inl ⟨by rfl,?_⟩) ?_;rotate_left
 . (intro w d;obtain⟨q1,q2,q3,q4,q5,q6⟩:=d;go_simp<;>with_reducible rfl)
 try simp only[Act.put]
 refine tkgG (v:=?_) 2 rfl (aa.o) (Or.inl ⟨by rfl,?_⟩) ?_;rotate_left
 . (intro w d;obtain⟨q1,q2,q3,q4,q5,q6⟩:=d;go_simp<;>with_reducible rfl)
 try simp only[Act.put]
 refine tkgG (v:=?_) 3 rfl (aa.o) (Or.inl ⟨by rfl,?_⟩) ?_;rotate_left
 . (intro w d;obtain⟨q1,q2,q3,q4,q5,q6⟩:=d;go_simp<;>with_reducible rfl)
 try simp only[Act.put]
 refine tkgG (v:=?_) 4 rfl (aa.o) (Or.inl ⟨by rfl,?_⟩) ?_;rotate_left
 . (intro w d;obtain⟨q1,q2,q3,q4,q5,q6⟩:=d;go_simp<;>with_reducible rfl)
 try simp only[Act.put]
 refine tkgG (v:=?_) 6 rfl (aa.o) (Or.inl ⟨by rfl,?_⟩) ?_;rotate_left
 . (intro w d;obtain⟨q1,q2,q3,q4,q5,q6⟩:=d;go_simp<;>with_reducible rfl)
 try simp only[Act.put]
 refine tkgG (v:=?_) 7 rfl (aa.o) (Or.inl ⟨by rfl,?_⟩) ?_;rotate_left
 . (intro w d;obtain⟨q1,q2,q3,q4,q5,q6⟩:=d;go_simp<;>with_reducible rfl)
 try simp only[Act.put]
 refine tkgG (v:=?_) 8 rfl (aa.o) (Or.inl ⟨by rfl,?_⟩) ?_;rotate_left
 . (intro w d;obtain⟨q1,q2,q3,q4,q5,q6⟩:=d;go_simp<;>with_reducible rfl)
 try simp only[Act.put]
 obtain⟨r1,r2,r3⟩:=ap.o.cell hk;rw[bX]at r1 r2 r3;have bY:=ap.o.lt;refine zU (rs:=[5]) (by kernel_rfl) (by simp) ?_;refine zK (o:=_) rfl (fun K hK=>?_) ?_
 .go_simp;clear r1 r2 r3;refine hK.o _ _ (ag.o _ af.o) (fun _=>?_);clear hK K
  try simp only[Act.put,zA,zF,zE]
  refine zU (rs:=[9]) (by kernel_rfl) (by simp) ?_;refine zK (o:=_) rfl (fun K hK=>?_) ?_
  .go_simp;refine(kp.o _ (hE.o.below af.o)).q fun W2 hb=>?_;have ab:Hid (Below w.heap.size w W2):=af.o.trans (hb.mono af.o.size);have ae:Hid (RowB W2 rb m r):=ap.o.below hb bY;clear hb;refine hK.o _ _ (ag.o _ ab.o) (fun _=>?_);clear hK K
   try simp only[Act.put,zA,zF,zE]
   refine tkgG (v:=?_) 10 rfl (ag.o _ ab.o) (Or.inl ⟨by rfl,?_⟩) ?_;rotate_left
   . (intro w d;obtain⟨q1,q2,q3,q4,q5,q6⟩:=d;go_simp<;>with_reducible rfl)
   try simp only[Act.put,zA]
   obtain⟨r1,r2,r3⟩:=ae.o.cell hk;have f1:=ae.o.frozen (k*3);have f2:=ae.o.frozen (k*3+1);have f3:=ae.o.frozen (k*3+2);have bZ:=ae.o.lt;have bW:Hid (RowB (((W2.setCell ⟨rb,k*3,none⟩ (.bool (rq (q+-1*part)).1)).setCell ⟨rb,k*3+1,none⟩ (.string (rq (q+-1*part)).2.1)).setCell ⟨rb,k*3+2,none⟩ (.string (rq (q+-1*part)).2.2)) rb m fun j=>if j=k then rq (q+-1*part) else r j):=ae.o.set hk _;have bU:Hid (Kp [rb] w (((W2.setCell ⟨rb,k*3,none⟩ (.bool (rq (q+-1*part)).1)).setCell ⟨rb,k*3+1,none⟩ (.string (rq (q+-1*part)).2.1)).setCell ⟨rb,k*3+2,none⟩ (.string (rq (q+-1*part)).2.2))):=((((Kp.refl [rb] w).below ab.o).set (a:=⟨rb,k*3,none⟩) _ (.inl (by simp))).set (a:=⟨rb,k*3+1,none⟩) _ (.inl (by simp))).set (a:=⟨rb,k*3+2,none⟩) _ (.inl (by simp));refine zU (rs:=[11]) (by kernel_rfl) (by simp) ?_;refine zK (o:=_) rfl (fun K hK=>?_) ?_
   .go_simp;refine hK.o _ _ (⟨((((ad.o.below ab.o).far (p:=⟨rb,k*3,none⟩) n1.symm _).far (p:=⟨rb,k*3+1,none⟩) n1.symm _).far (p:=⟨rb,k*3+2,none⟩) n1.symm _).c0,((((ad.o.below ab.o).far (p:=⟨rb,k*3,none⟩) n1.symm _).far (p:=⟨rb,k*3+1,none⟩) n1.symm _).far (p:=⟨rb,k*3+2,none⟩) n1.symm _).c1,((((ad.o.below ab.o).far (p:=⟨rb,k*3,none⟩) n1.symm _).far (p:=⟨rb,k*3+1,none⟩) n1.symm _).far (p:=⟨rb,k*3+2,none⟩) n1.symm _).c2,((((hl.o.below ab.o).far (p:=⟨rb,k*3,none⟩) n2.symm _).far (p:=⟨rb,k*3+1,none⟩) n2.symm _).far (p:=⟨rb,k*3+2,none⟩) n2.symm _).c2,((((hl.o.below ab.o).far (p:=⟨rb,k*3,none⟩) n2.symm _).far (p:=⟨rb,k*3+1,none⟩) n2.symm _).far (p:=⟨rb,k*3+2,none⟩) n2.symm _).c3,((((hl.o.below ab.o).far (p:=⟨rb,k*3,none⟩) n2.symm _).far (p:=⟨rb,k*3+1,none⟩) n2.symm _).far (p:=⟨rb,k*3+2,none⟩) n2.symm _).c4⟩) (fun _=>?_);clear hK K
    try simp only[Act.put,zA,zF,zE]
    refine yz (by kernel_rfl) ?_ _;refine yX ?_;exact h.o _ _ _ _ _ _ _ _ _ _ _ _ bW bU
   exact zR
  exact zR
 exact zR
theorem XG{c0 c1 c3 c4 c5 c6 c7 c8 c9 av aw ax ay az aA aB aC aD aE aF aG aH aI aJ aK aL aM aN aO aP aQ aR aS aT aU aV aW aX aY aZ a0 a1 a2 a3 a4 a5 a6 a7 a8 a9 ba bb bc bd be bf bg bh bi bj bk bm bn bo bp bq br bs bt bu bv bw bx bz bA bB bC bD bE bF bG bH bI bJ bK bL bM bN bO aj ak al am an ao ap aq a78 a79 bP bQ bR bS bT bU:Value}{Q:Exit->Act->World->Prop}(gb lb vb:Nat)(hh:Int)(r0 part v:Rat)(c0v:Value)(w:World)(hE:Env w)(hg:Bk w gb 48 [.bool (rq r0).1,.string (rq r0).2.1,.string (rq r0).2.2])(hl:Bk w lb 106 [c0v,.int .i64 hh,.bool (rq part).1,.string (rq part).2.1,.string (rq part).2.2])(n1:gb≠lb)(h1:ShortQ r0)(h2:ShortQ part)(h3:ShortQ v)(h4:ShortQ (part*v))(kv:∀W,Below w.heap.size w W->Calls prog 37 #[.int .i64 hh,.pointer (some ⟨vb,0,none⟩)] W fun e w'=>e=.returned (.agg #[.bool (rq v).1,.string (rq v).2.1,.string (rq v).2.2])/\Below W.heap.size W w')
 (h:∀(u78 u79 u80 u81 u82 u83 u84 u85:Value)(W:World)(_:Hid (Bk W gb 48 [.bool (rq (r0+part*v)).1,.string (rq (r0+part*v)).2.1,.string (rq (r0+part*v)).2.2]))(_:Hid (Kp [gb] w W)),Q .normal ⟨#[c0,c1,.func (.func 37) #[] #[.pointer (some ⟨vb,0,none⟩)],c3,c4,c5,c6,c7,c8,c9,av,.pointer (some ⟨gb,0,none⟩),aw,.pointer (some ⟨lb,0,none⟩),ax,ay,az,aA,aB,aC,aD,aE,aF,aG,aH,aI,aJ,aK,aL,aM,aN,aO,aP,aQ,aR,aS,aT,aU,aV,aW,aX,aY,aZ,a0,a1,a2,a3,a4,a5,a6,a7,a8,a9,ba,bb,bc,bd,be,bf,bg,bh,bi,bj,bk,bm,bn,bo,bp,bq,br,bs,bt,bu,bv,bw,bx,bz,bA,u78,u79,u80,u81,u82,u83,u84,u85,bB,bC,bD,bE,bF,bG,bH,bI,bJ,bK,bL,bM,bN,bO,aj,ak,al,am,an,ao,ap,aq],[]⟩ W):
 Code.wp prog (bdR 20) Q ⟨#[c0,c1,.func (.func 37) #[] #[.pointer (some ⟨vb,0,none⟩)],c3,c4,c5,c6,c7,c8,c9,av,.pointer (some ⟨gb,0,none⟩),aw,.pointer (some ⟨lb,0,none⟩),ax,ay,az,aA,aB,aC,aD,aE,aF,aG,aH,aI,aJ,aK,aL,aM,aN,aO,aP,aQ,aR,aS,aT,aU,aV,aW,aX,aY,aZ,a0,a1,a2,a3,a4,a5,a6,a7,a8,a9,ba,bb,bc,bd,be,bf,bg,bh,bi,bj,bk,bm,bn,bo,bp,bq,br,bs,bt,bu,bv,bw,bx,bz,bA,a78,a79,bP,bQ,bR,bS,bT,bU,bB,bC,bD,bE,bF,bG,bH,bI,bJ,bK,bL,bM,bN,bO,aj,ak,al,am,an,ao,ap,aq],[]⟩ w:=by
 conv=>arg 2;whnf
 conv=>arg 4;zeta
 replace h:=zh h;have ae:Hid (Below w.heap.size w w.drew):=(zI _ w).drew;have kp:=zh (fun W hW=>Om r0 part v h1 h2 h3 h4 W hW);have ai:Hid (Bk w.drew gb 48 [.bool (rq r0).1,.string (rq r0).2.1,.string (rq r0).2.2]):=hg.below (zI _ w).drew;have gl:=hg.lt;have ag:Hid (∀W,Below w.heap.size w W->W.cell? ⟨lb,1,none⟩=some (.int .i64 hh)/\W.cell? ⟨lb,2,none⟩=some (.bool (rq part).1)/\W.cell? ⟨lb,3,none⟩=some (.string (rq part).2.1)/\W.cell? ⟨lb,4,none⟩=some (.string (rq part).2.2)):=fun W hb=>⟨(hl.below hb).c1,(hl.below hb).c2,(hl.below hb).c3,(hl.below hb).c4⟩;replace hE:=zh hE;replace hg:=zh hg;replace hl:=zh hl;replace kv:=zh kv;clear h1 h2 h3 h4;refine yx ?_;refine yq (S:=fun W=>W.cell? ⟨lb,1,none⟩=some (.int .i64 hh)/\W.cell? ⟨lb,2,none⟩=some (.bool (rq part).1)/\W.cell? ⟨lb,3,none⟩=some (.string (rq part).2.1)/\W.cell? ⟨lb,4,none⟩=some (.string (rq part).2.2)) (by kernel_rfl) (ag.o _ ae.o) (fun af=>?_);replace af:=zh af;refine tkgG (v:=?_) 1 rfl (af.o) (Or.inl ⟨by rfl,?_⟩) ?_;rotate_left
 . (intro w ad;obtain⟨q1,q2,q3,q4⟩:=ad;go_simp<;>with_reducible rfl)
 try simp only[Act.put,zA]
 refine tkgG (v:=?_) 2 rfl (af.o) (Or.inl ⟨by rfl,?_⟩) ?_;rotate_left
 . (intro w ad;obtain⟨q1,q2,q3,q4⟩:=ad;go_simp<;>with_reducible rfl)
 try simp only[Act.put]
 refine tkgG (v:=?_) 3 rfl (af.o) (Or.inl ⟨by rfl,?_⟩) ?_;rotate_left
 . (intro w ad;obtain⟨q1,q2,q3,q4⟩:=ad;go_simp<;>with_reducible rfl)
 try simp only[Act.put]
 refine tkgG (v:=?_) 4 rfl (af.o) (Or.inl ⟨by rfl,?_⟩) ?_;rotate_left
 . (intro w ad;obtain⟨q1,q2,q3,q4⟩:=ad;go_simp<;>with_reducible rfl)
 try simp only[Act.put]
 refine tkgG (v:=?_) 5 rfl (af.o) (Or.inl ⟨by rfl,?_⟩) ?_;rotate_left
 . (intro w ad;obtain⟨q1,q2,q3,q4⟩:=ad;go_simp<;>with_reducible rfl)
 try simp only[Act.put]
 refine zU (rs:=[0,6]) (by kernel_rfl) (by simp) ?_;have t1:=ai.o.c0;have t2:=ai.o.c1;have t3:=ai.o.c2;have t7:=ai.o.lt;refine zK (o:=_) rfl (fun K hK=>?_) ?_
 .go_simp;clear t1 t2 t3 t7;refine hK.o _ _ (ag.o _ ae.o) (fun _=>?_);clear hK K
  try simp only[Act.put,zA,zF,zE]
  refine zU (rs:=[6]) (by kernel_rfl) (by simp) ?_;refine zK (o:=_) rfl (fun K hK=>?_) ?_
  .go_simp;refine(kv.o _ ae.o).q fun W2 hb=>?_;have ab:Hid (Below w.heap.size w W2):=ae.o.trans (hb.mono ae.o.size);have ah:=zh (ai.o.below hb);clear hb;refine hK.o _ _ (ag.o _ ab.o) (fun _=>?_);clear hK K
   try simp only[Act.put,zA,zF,zE]
   refine zU (rs:=[7]) (by kernel_rfl) (by simp) ?_;refine zK (o:=_) rfl (fun K hK=>?_) ?_
   .go_simp;refine(kp.o _ (hE.o.below ab.o)).q fun W3 hb=>?_;have aa:Hid (Below w.heap.size w W3):=ab.o.trans (hb.mono ab.o.size);have d:=zh (ah.o.below hb);clear hb;refine hK.o _ _ (ag.o _ aa.o) (fun _=>?_);clear hK K
    try simp only[Act.put,zA,zF,zE]
    have au:Hid (Bk (((W3.setCell ⟨gb,0,none⟩ (.bool (rq (r0+part*v)).1)).setCell ⟨gb,1,none⟩ (.string (rq (r0+part*v)).2.1)).setCell ⟨gb,2,none⟩ (.string (rq (r0+part*v)).2.2)) gb 48 [.bool (rq (r0+part*v)).1,.string (rq (r0+part*v)).2.1,.string (rq (r0+part*v)).2.2]):=((d.o.set 0 (.bool (rq (r0+part*v)).1)).set 1 (.string (rq (r0+part*v)).2.1)).set 2 (.string (rq (r0+part*v)).2.2);have ar:Hid (Kp [gb] w (((W3.setCell ⟨gb,0,none⟩ (.bool (rq (r0+part*v)).1)).setCell ⟨gb,1,none⟩ (.string (rq (r0+part*v)).2.1)).setCell ⟨gb,2,none⟩ (.string (rq (r0+part*v)).2.2))):=((((Kp.refl [gb] w).below aa.o).set (a:=⟨gb,0,none⟩) _ (.inl (by simp))).set (a:=⟨gb,1,none⟩) _ (.inl (by simp))).set (a:=⟨gb,2,none⟩) _ (.inl (by simp));have t1:=d.o.c0;have t2:=d.o.c1;have t3:=d.o.c2;have t4:=d.o.frozen 0;have t5:=d.o.frozen 1;have t6:=d.o.frozen 2;have t7:=d.o.lt;refine zU (rs:=[8]) (by kernel_rfl) (by simp) ?_;refine zK (o:=_) rfl (fun K hK=>?_) ?_
    .go_simp;refine hK.o _ _ (⟨((((hl.o.below aa.o).far (p:=⟨gb,0,none⟩) n1.symm _).far (p:=⟨gb,1,none⟩) n1.symm _).far (p:=⟨gb,2,none⟩) n1.symm _).c1,((((hl.o.below aa.o).far (p:=⟨gb,0,none⟩) n1.symm _).far (p:=⟨gb,1,none⟩) n1.symm _).far (p:=⟨gb,2,none⟩) n1.symm _).c2,((((hl.o.below aa.o).far (p:=⟨gb,0,none⟩) n1.symm _).far (p:=⟨gb,1,none⟩) n1.symm _).far (p:=⟨gb,2,none⟩) n1.symm _).c3,((((hl.o.below aa.o).far (p:=⟨gb,0,none⟩) n1.symm _).far (p:=⟨gb,1,none⟩) n1.symm _).far (p:=⟨gb,2,none⟩) n1.symm _).c4⟩) (fun _=>?_);clear hK K
     try simp only[Act.put,zA,zF,zE]
     refine yz (by kernel_rfl) ?_ _;refine yX ?_;exact h.o _ _ _ _ _ _ _ _ _ au ar
    exact zR
   exact zR
  exact zR
 clear t1 t2 t3 t7;refine zK (o:=_) rfl (fun K hK=>?_) ?_
 .go_simp;refine(kv.o _ ae.o).q fun W2 hb=>?_;have ab:Hid (Below w.heap.size w W2):=ae.o.trans (hb.mono ae.o.size);have ah:=zh (ai.o.below hb);clear hb;refine hK.o _ _ (ag.o _ ab.o) (fun _=>?_);clear hK K
  try simp only[Act.put,zA,zF,zE]
  refine zU (rs:=[0]) (by kernel_rfl) (by simp) ?_;have t1:=ah.o.c0;have t2:=ah.o.c1;have t3:=ah.o.c2;have t7:=ah.o.lt;refine zK (o:=_) rfl (fun K hK=>?_) ?_
  .go_simp;clear t1 t2 t3 t7;refine hK.o _ _ (ag.o _ ab.o) (fun _=>?_);clear hK K
   try simp only[Act.put,zA,zF,zE]
   refine zU (rs:=[7]) (by kernel_rfl) (by simp) ?_;refine zK (o:=_) rfl (fun K hK=>?_) ?_
   .go_simp;refine(kp.o _ (hE.o.below ab.o)).q fun W3 hb=>?_;have aa:Hid (Below w.heap.size w W3):=ab.o.trans (hb.mono ab.o.size);have d:=zh (ah.o.below hb);clear hb;refine hK.o _ _ (ag.o _ aa.o) (fun _=>?_);clear hK K
    try simp only[Act.put,zA,zF,zE]
    have au:Hid (Bk (((W3.setCell ⟨gb,0,none⟩ (.bool (rq (r0+part*v)).1)).setCell ⟨gb,1,none⟩ (.string (rq (r0+part*v)).2.1)).setCell ⟨gb,2,none⟩ (.string (rq (r0+part*v)).2.2)) gb 48 [.bool (rq (r0+part*v)).1,.string (rq (r0+part*v)).2.1,.string (rq (r0+part*v)).2.2]):=((d.o.set 0 (.bool (rq (r0+part*v)).1)).set 1 (.string (rq (r0+part*v)).2.1)).set 2 (.string (rq (r0+part*v)).2.2);have ar:Hid (Kp [gb] w (((W3.setCell ⟨gb,0,none⟩ (.bool (rq (r0+part*v)).1)).setCell ⟨gb,1,none⟩ (.string (rq (r0+part*v)).2.1)).setCell ⟨gb,2,none⟩ (.string (rq (r0+part*v)).2.2))):=((((Kp.refl [gb] w).below aa.o).set (a:=⟨gb,0,none⟩) _ (.inl (by simp))).set (a:=⟨gb,1,none⟩) _ (.inl (by simp))).set (a:=⟨gb,2,none⟩) _ (.inl (by simp));have t1:=d.o.c0;have t2:=d.o.c1;have t3:=d.o.c2;have t4:=d.o.frozen 0;have t5:=d.o.frozen 1;have t6:=d.o.frozen 2;have t7:=d.o.lt;refine zU (rs:=[8]) (by kernel_rfl) (by simp) ?_;refine zK (o:=_) rfl (fun K hK=>?_) ?_
    .go_simp;refine hK.o _ _ (⟨((((hl.o.below aa.o).far (p:=⟨gb,0,none⟩) n1.symm _).far (p:=⟨gb,1,none⟩) n1.symm _).far (p:=⟨gb,2,none⟩) n1.symm _).c1,((((hl.o.below aa.o).far (p:=⟨gb,0,none⟩) n1.symm _).far (p:=⟨gb,1,none⟩) n1.symm _).far (p:=⟨gb,2,none⟩) n1.symm _).c2,((((hl.o.below aa.o).far (p:=⟨gb,0,none⟩) n1.symm _).far (p:=⟨gb,1,none⟩) n1.symm _).far (p:=⟨gb,2,none⟩) n1.symm _).c3,((((hl.o.below aa.o).far (p:=⟨gb,0,none⟩) n1.symm _).far (p:=⟨gb,1,none⟩) n1.symm _).far (p:=⟨gb,2,none⟩) n1.symm _).c4⟩) (fun _=>?_);clear hK K
     try simp only[Act.put,zA,zF,zE]
     refine yz (by kernel_rfl) ?_ _;refine yX ?_;exact h.o _ _ _ _ _ _ _ _ _ au ar
    exact zR
   exact zR
  exact zR
 exact zR
end Sh
end
end Go.Proofs.YtefmpngjjmddjaaGreatDoor

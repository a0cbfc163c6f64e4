/- Parts of the proof. -/
import Derived.Test.YtefmpngjjmddjaaGreatDoorKhD
set_option maxHeartbeats 32000000
set_option maxRecDepth 1000000
open Go.Proofs.Tryz
namespace Go.Proofs.YtefmpngjjmddjaaGreatDoor
theorem tkhE{P:Program}{md:Region.Mode}{ops:Array Oper}{Q:Exit->Act->World->Prop}{S:World->Prop}{oi:Oper}{v:Value}{fuel:Nat}{listed:Array Bool}{a:Act}{w:World}(i:Nat)(hi:ops[i]?=some oi)(hS:S w)(hy:YieldsIf P ops S oi v a)(h:wpAnyH P md ops Q S fuel (listed.setIfInBounds i true) (a.put oi.dst v) w)(hs:Region.noSelect ops=true:=by kernel_rfl)(hf:Region.free md ops listed i=true:=by kernel_rfl)(hr:(Region.ready md ops listed).contains i=true:=by kernel_rfl)(hQ:∀c a w,Q (.panic c) (a.put oi.dst v) w->Q (.panic c) a w:=by exact fun _ _ _ h=>h):wpAnyH P md ops Q S (fuel+1) listed a w:=xZ hi hs hf hr hQ hy hS h
section
open Go.RowKit Go.Shelf
namespace Ci
open Nt
theorem Q2{w:World}{base m:Nat}{e:TypeId}{v:Value}{xs:List Value}(h:w.ownsRow base e 1 v (m+1) xs):∃g cap,v=.slice (some ⟨g,0,none⟩) (m+1) cap:=by
 rcases h.2 with⟨_,h0⟩|⟨g,cap,_,rfl,_⟩
 .omega
 exact⟨g,cap,rfl⟩
def TurnI(n i j:Nat)(adj T:Nat->List Nat):Prop:=(∀q x,q<n->(x∈T q<->(x<i/\q∈adj x)\/(x=i/\q∈(adj i).take j)))/\∀q,(T q).length<=1000*i+j
theorem TurnI.next{n i:Nat}{adj T:Nat->List Nat}(h:TurnI n i (adj i).length adj T)(hl:(adj i).length<=1000):TurnI n (i+1) 0 adj T:=by
 refine⟨fun q x hq=>?_,fun q=>by have:=h.2 q;omega⟩;rw[h.1 q x hq,zu];constructor
 .rintro(⟨a,b⟩|⟨rfl,b⟩)
  .exact .inl ⟨by omega,b⟩
  exact .inl ⟨by omega,b⟩
 rintro(⟨a,b⟩|⟨_,b⟩)
 .by_cases e:x=i
  .subst e;exact .inr ⟨rfl,b⟩
  exact .inl ⟨by omega,b⟩
 simp at b
theorem TurnI.step{n i j:Nat}{adj T:Nat->List Nat}(h:TurnI n i j adj T)(hj:j<(adj i).length):TurnI n i (j+1) adj (EG T (adj i)[j] i):=by
 refine⟨fun q x hq=>?_,fun q=>?_⟩
 .unfold EG;rw[zP hj]
  by_cases e:q=(adj i)[j]
  .rw [zF e,yc,h.1 q x hq,yc,xE,xE];constructor
   .rintro((a|⟨a,b⟩)|a)
    .exact .inl a
    .exact .inr ⟨a,.inl b⟩
    exact .inr ⟨a,.inr e⟩
   rintro(a|⟨a,b|_⟩)
   .exact .inl (.inl a)
   .exact .inl (.inr ⟨a,b⟩)
   exact .inr a
  rw[zE e,h.1 q x hq,yc,xE];constructor
  .rintro(a|⟨a,b⟩)
   .exact .inl a
   exact .inr ⟨a,.inl b⟩
  rintro(a|⟨a,b|b⟩)
  .exact .inl a
  .exact .inr ⟨a,b⟩
  exact absurd b e
 unfold EG;have:=h.2 q
 split
 .rw[zX,wQ];omega
 omega
theorem NW(R n B:Nat)(v:Nat->Value)(adj:Nat->List Nat)(w:World)(hn:n<=100)(aj:∀p,p<n->(adj p).length<=1000)(aq:∀p q,p<n->q∈adj p->q<n)(hG:Gr w B R n v adj):
 Calls prog 43 #[.slice (some ⟨R,0,none⟩) n n] w fun e w'=>(∃R' v' T,e=.returned (.slice (some ⟨R',0,none⟩) n n)/\Gr w' w.heap.size R' n v' T/\TurnI n n 0 adj T)/\Below w.heap.size w w':=by
 -- for 14
 have aO:=vE (P:=prog) 94 37 (.slice none 0 0) 24 underlying94 Tv rfl .i64 .i64 n (by omega) (by omega);have aA:Hid (Gr (w.alloc (.cells (madeCells #[(.slice none 0 0:Value)] n) 37)) w.heap.size w.heap.size n (fun _=>.slice none 0 0) fun _=>[]):=Gr.start w (zB _) n 37;have ay:Hid (Below w.heap.size w (w.alloc (.cells (madeCells #[(.slice none 0 0:Value)] n) 37))):=(zI _ w).alloc (zB _) _;have aB:Hid (TurnI n 0 0 adj fun _=>[]):=⟨fun q x _=>⟨fun h=>(by cases h),fun h=>(by rcases h with⟨h,_⟩|⟨_,h⟩<;>simp at h)⟩,fun _=>zS _⟩;obtain⟨i0,ap,aH⟩:=Option.map_eq_some_iff.1 Tw;simp only[Prod.mk.injEq]at aH;obtain⟨av,aw,ax⟩:=aH;replace ap:=zh ap;replace av:=zh av;replace aw:=zh aw;replace ax:=zh ax;replace hG:=zh hG;replace aj:=zh aj;replace aq:=zh aq;go_enter func43,ntmps43;go_wp2;clear aO
 go_loopw [13] (fun ix wr=>∃(i:Nat)(v':Nat->Value)(T:Nat->List Nat),i<=n/\ix=.int .i64 (i:Int)/\Hid (Below w.heap.size w wr)/\Hid (Gr wr w.heap.size w.heap.size n v' T)/\Hid (TurnI n i 0 adj T)) (fun ix _=>n-(intOf ix).toNat)
 case atStart=>exact⟨0,_,_,zS _,rfl,ay,aA,aB⟩
 case round=>
  obtain⟨i,v',T,hi,rfl,hB,an,hT⟩:=hrel;clear ay aA aB
  by_cases ak:i<n
  .have aE:=aj.o i ak;have hd:=(hB.o.cell (p:=⟨R,i,none⟩) hG.o.lt).trans (hG.o.hd i ak);have j0:(0:Int)<=(i:Int):=by omega
   have j1:(i:Int)<(n:Int):=by omega
   rcases D3 (hG.o.rows i ak) with⟨am,al⟩|⟨g,cap,aG,_,aN,_,d⟩
   .rw [am]at hd
    have ah:Hid (TurnI n (i+1) 0 adj T):=by
     have h:=hT.o;refine TurnI.next ?_ aE;rw[al];exact h
    clear am al;go_wp2
    go_loopw [20] (fun ix wz=>ix=.int .i64 0/\wz=wr) (fun _ _=>0)
    case atStart=>exact⟨rfl,rfl⟩
    case round=>
     obtain⟨rfl,rfl⟩:=hrel;go_wp2;exact⟨⟨i+1,v',T,by omega,by go_num,hB,an,ah⟩,by simp only[intOf];omega⟩
   rw[aG]at hd;replace d:=zh d;clear aG;go_wp2
   go_loopw [20] (fun ix wz=>∃(j:Nat)(v2:Nat->Value)(T2:Nat->List Nat),j<=(adj i).length/\ix=.int .i64 (j:Int)/\Hid (Below w.heap.size w wz)/\Hid (Gr wz w.heap.size w.heap.size n v2 T2)/\Hid (TurnI n i j adj T2)) (fun ix _=>(adj i).length-(intOf ix).toNat)
   case atStart=>exact⟨0,v',T,zS _,rfl,hB,an,hT⟩
   case round=>
    obtain⟨j,v2,T2,hj,rfl,af,ad,ah⟩:=hrel
    by_cases hjl:j<(adj i).length
    .have hq:=aq.o i (adj i)[j] ak (zO hjl);have e1:=(af.o.cell (p:=⟨g,j,none⟩) aN).trans (d.o j hjl);have aC:=zh (ah.o.step hjl);obtain⟨q,au⟩:∃x,x=(adj i)[j]:=⟨_,rfl⟩;rw[<-au]at hq e1 aC;replace au:=zh au;obtain⟨vh,ae⟩:∃x,x=v2 q:=⟨_,rfl⟩;have aD:=ad.o.hd q hq;have aM:=ad.o.fr q;have aQ:=ad.o.lt;have aa:=ad.o.rows q hq;rw[<-ae]at aD aa;have aP:Hid (vh.ownBlock≠some w.heap.size):=by rw[ae];exact ad.o.ne q hq
     replace ae:=zh ae;replace aa:=zh aa;have aR:=ah.o.2 q;have aS:=af.o.size;have az:Hid (Below w.heap.size w (wr.alloc (.cells #[.int .i64 (i:Int)] 3))):=af.o.alloc af.o.size _;have ag:=zh (ad.o.alloc (.cells #[.int .i64 (i:Int)] 3));have aL:Hid (World.cell? (wr.alloc (.cells #[.int .i64 (i:Int)] 3)) ⟨w.heap.size,q,none⟩=some vh):=by rw[ae.o];exact ag.o.hd q hq
     have q0:(0:Int)<=(q:Int):=by omega
     have q1:(q:Int)<(n:Int):=by omega
     have q2:(0:Int)<=(j:Int):=by omega
     have q3:(j:Int)<((adj i).length:Int):=by omega
     go_wp2_with (at_builtin;refine wpList_append_new _ rfl _ _ 37 rfl w.heap.size 3 i0 (.int .i64 0) 1 8 underlying37 ap.o av.o aw.o ax.o rfl (by decide) vh (T2 q).length (Bv (T2 q)) rfl (aa.o.alloc _) ⟨wr.heap.size,0,none⟩ 1 1 [.int .i64 (i:Int)] rfl rfl (BO _ _ _) (AQ _ rfl) (by omega) (by unfold maxLen;omega) (by omega) (by simp;omega) ?_;intro vb wb ar ai aF;have aJ:Hid (Gr (wb.setCell ⟨w.heap.size,q,none⟩ vb) w.heap.size w.heap.size n (fun x=>if x=q then vb else v2 x) (EG T2 q i)):=(ag.o.step hq (by rw[<-ae.o];exact ai) ar (by rw[<-ae.o];exact aF));have aI:Hid (Below w.heap.size w (wb.setCell ⟨w.heap.size,q,none⟩ vb)):=((az.o.grown ai az.o.size (fun b e=>(aa.o.lt b e).1)).setCell (p:=⟨w.heap.size,q,none⟩) (zB _) _);have ao:=ai.block w.heap.size ag.o.lt (fun e=>aP.o e.symm);have y1:=(zU (a:=⟨w.heap.size,q,none⟩) ao).trans aL.o;have y2:=(yF (a:=⟨w.heap.size,q,none⟩) ao).trans (ag.o.fr q);have y3:w.heap.size<wb.heap.size:=zJ ag.o.lt ai.size;obtain⟨g9,cap9,rfl⟩:=Q2 ar;clear ar ai aF ao aD aM)
     exact⟨⟨j+1,_,_,by omega,by go_num,aI,aJ,aC⟩,by simp only[intOf];omega⟩
    obtain rfl:j=(adj i).length:=by omega
    have aK:=zh (ah.o.next aE);go_wp2;exact⟨⟨i+1,v2,T2,by omega,by go_num,af,ad,aK⟩,by simp only[intOf];omega⟩
  obtain rfl:i=n:=by omega
  go_wp2;go_ret;exact⟨⟨_,v',T,rfl,an.o,hT.o⟩,hB.o⟩
structure Kp(xs:List Nat)(w w':World):Prop where
 os:w'.os=w.os
 tape:w'.tape=w.tape
 output:w'.output=w.output
 size:w.heap.size<=w'.heap.size
 block:∀k,k<w.heap.size->k∉xs->w'.heap[k]? = w.heap[k]?
section
variable {xs:List Nat} {w w' w'':World} {B R n i b c mb:Nat} {v:Nat->Value} {adj ls:Nat->List Nat} {α:Type} {P:Program} {k:TypeId} {κ:α->Lit} {f:α->Option Value} {t:TypeId} {cs:List Value}
theorem Kp.refl(xs:List Nat)(w:World):Kp xs w w:=⟨rfl,rfl,rfl,zB _,fun _ _ _=>rfl⟩
theorem Kp.below(h:Kp xs w w')(hb:Below w'.heap.size w' w''):Kp xs w w'' :=
 ⟨hb.os.trans h.os,hb.tape.trans h.tape,hb.output.trans h.output,zQ h.size hb.size,fun k hk hx=>(hb.block k (zJ hk h.size)).trans (h.block k hk hx)⟩
theorem Kp.alloc(h:Kp xs w w')(o:Obj):Kp xs w (w'.alloc o):=h.below ((zI _ w').alloc (zB _) o)
theorem Kp.drew(h:Kp xs w w'):Kp xs w w'.drew:=h.below (zI _ w').drew
theorem Kp.grown{row:Option Nat}(h:Kp xs w w')(hg:w'.grownBy w'' row)(hr:∀b,row=some b->b∈xs\/w.heap.size<=b):Kp xs w w'' :=
 ⟨hg.os.trans h.os,hg.tape.trans h.tape,hg.output.trans h.output,zQ h.size hg.size,fun k hk hx=>(hg.block k (zJ hk h.size) (fun e=>by
   rcases hr k e.symm with h1|h1
   .exact hx h1
   omega)).trans (h.block k hk hx)⟩
theorem A8(w:World)(a:Addr)(u:Value):w.grownBy (w.setCell a u) (some a.block):=⟨rfl,rfl,rfl,by simp,fun k _ hk=>zg _ _ _ _ (fun e=>hk (by rw[e]))⟩
theorem Md(w:World)(o:Obj)(row:Option Nat):w.grownBy (w.alloc o) row:=⟨rfl,rfl,rfl,by simp,fun k hk _=>heap_alloc_old w o hk⟩
theorem Kp.set(h:Kp xs w w'){a:Addr}(u:Value)(ha:a.block∈xs\/w.heap.size<=a.block):Kp xs w (w'.setCell a u):=h.grown (A8 w' a u) fun b e=>by cases e;exact ha
theorem Kp.to_below(h:Kp xs w w'){w0:World}(h0:Below w0.heap.size w0 w)(hx:∀x,x∈xs->w0.heap.size<=x):Below w0.heap.size w0 w' :=
 h0.trans ⟨h.os,h.tape,h.output,h.size,fun k hk=>h.block k (zJ hk h0.size) fun e=>by have:=hx k e;omega⟩
theorem Kp.heap(h:Kp xs w w')(hb:b<w.heap.size)(hx:b∉xs):w'.heap[b]? = w.heap[b]?:=h.block b hb hx
theorem Gr.of_block(h:Gr w B R n v adj)(hs:w.heap.size<=w'.heap.size)(hR:w'.heap[R]? = w.heap[R]?)(hv:∀i b,i<n->(v i).ownBlock=some b->w'.heap[b]? = w.heap[b]?):Gr w' B R n v adj :=
 ⟨zJ h.lt hs,fun i hi=>(zU (a:=⟨R,i,none⟩) hR).trans (h.hd i hi),fun i=>(yF (a:=⟨R,i,none⟩) hR).trans (h.fr i),fun i hi=>by
   obtain⟨h1,h2⟩:=h.rows i hi;refine⟨h1,?_⟩
   rcases h2 with h2|⟨g,cap,cur,d,hg,hh,rest⟩
   .exact .inl h2
   exact .inr ⟨g,cap,cur,d,hg,(hv i g hi (by rw[d];rfl)).trans hh,rest⟩,h.apart,h.ne,h.lowR⟩
theorem Gr.kp(h:Gr w B R n v adj)(hk:Kp xs w w')(hR:R∉xs)(hv:∀i b,i<n->(v i).ownBlock=some b->b∉xs):Gr w' B R n v adj :=
 h.of_block hk.size (hk.block R h.lt hR) fun i b hi e=>hk.block b ((h.rows i hi).lt b e).2 (hv i b hi e)
theorem MapK.kp(h:MapK P k κ w b c f)(hk:Kp xs w w')(hb:b∉xs):MapK P k κ w' b c f:=h.block (hk.block b h.lt hb)
theorem Bk.kp(h:Bk w b t cs)(hk:Kp xs w w')(hb:b∉xs):Bk w' b t cs:=by
 have e:=hk.block b h.lt hb;exact(show w'.heap[b]? = _ from e.trans h)
structure LM(w:World)(B mb n c:Nat)(v:Nat->Value)(ls:Nat->List Nat):Prop where
 map:∃f:Int->Option Value,MapK prog 3 κi w mb c f/\∀x:Nat,x<n->f (x:Int)=if ls x=[] then none else some (v x)
 nil:∀x,x<n->ls x=[]->v x=.slice none 0 0
 rows:∀x,x<n->w.ownsRow B 3 1 (v x) (ls x).length (Bv (ls x))
 apart:∀i j,i<n->j<n->i≠j->Qy (v i) (v j)
 ne:∀x,x<n->(v x).ownBlock≠some mb
theorem LM.lt(h:LM w B mb n c v ls):mb<w.heap.size:=by obtain⟨f,h,_⟩:=h.map;exact h.lt
theorem LM.grown{row:Option Nat}(h:LM w B mb n c v ls)(hg:w.grownBy w' row)(hm:row≠some mb)(hv:∀x b,x<n->(v x).ownBlock=some b->row≠some b):LM w' B mb n c v ls:=by
 obtain⟨f,h1,h2⟩:=h.map;refine⟨⟨f,h1.kept hg fun e=>hm e.symm,h2⟩,h.nil,fun x hx=>(h.rows x hx).kept hg ?_,h.apart,h.ne⟩
 cases hu:(v x).ownBlock with
 |none=>exact .inl rfl
 |some b=>exact .inr fun e=>hv x b hx hu e.symm
theorem LM.set(h:LM w B mb n c v ls){a:Addr}(u:Value)(hm:a.block≠mb)(hv:∀x,x<n->(v x).ownBlock≠some a.block):LM (w.setCell a u) B mb n c v ls :=
 h.grown (A8 w a u) (fun e=>hm (Option.some.inj e)) fun x b hx e e2=>hv x hx (by rw[e,e2])
theorem LM.alloc(h:LM w B mb n c v ls)(o:Obj):LM (w.alloc o) B mb n c v ls:=h.grown (Md w o none) (by simp) fun _ _ _ _=>by simp
theorem LM.drew(h:LM w B mb n c v ls):LM w.drew B mb n c v ls:=⟨h.map,h.nil,h.rows,h.apart,h.ne⟩
theorem LM.below(h:LM w B mb n c v ls)(hb:Below w.heap.size w w'):LM w' B mb n c v ls :=
 h.grown (row:=none) ⟨hb.os,hb.tape,hb.output,hb.size,fun k hk _=>hb.block k hk⟩ (by simp) fun _ _ _ _=>by simp
theorem LM.made(w:World)(B n:Nat):LM (w.alloc (.map #[] 0)) B w.heap.size n 0 (fun _=>.slice none 0 0) fun _=>[] :=
 ⟨⟨_,MapK.made w _ _ _,fun _ _=>(zF rfl).symm⟩,fun _ _ _=>rfl,fun _ _=>yf _ _ _ _,fun _ _ _ _ _ _ hb=>(by cases hb),fun _ _ h=>(by cases h)⟩
theorem Tz(w:World):(zeroValue 37).run prog w=.ok (.slice none 0 0) w:=by kernel_rfl
theorem LM.look(h:LM w B mb n c v ls){x:Nat}(hx:x<n)(hn:n<=1000):(Instr.lookup 97 (.map (some mb)) (.int .i64 (x:Int)) false).run prog w=.ok (v x) w:=by
 obtain⟨f,h1,h2⟩:=h.map;have:=h1.look FO underlying97 (Tz w) (EB underlying3 (a:=(x:Int)) (by omega) (by omega));rw[this,h2 x hx]
 by_cases e:ls x=[]
 .rw[zF e,h.nil x hx e];rfl
 rw[zE e];rfl
theorem LM.step(h:LM w B mb n c v ls){x q:Nat}(hx:x<n)(hn:n<=1000)(hc:c<maxLen){u:Value}(hg:w.grownBy w' (v x).ownBlock)(ho:w'.ownsRow B 3 1 u ((ls x).length+1) (Bv (ls x)++[.int .i64 (q:Int)]))(hu:u.ownBlock=(v x).ownBlock\/u.ownBlock=some w.heap.size):
 ∃w'',(Instr.mapUpdate 97 (.map (some mb)) (.int .i64 (x:Int)) u).run prog w'=.ok () w''/\LM w'' B mb n (if ls x=[] then c+1 else c) (fun i=>if i=x then u else v i) (EG ls x q)/\w'.grownBy w'' (some mb):=by
 obtain⟨f,h1,h2⟩:=h.map;have ae:some mb≠(v x).ownBlock:=fun e=>h.ne x hx e.symm;have aj:=h.lt
 have ah:u.ownBlock≠some mb:=fun e=>by
  rcases hu with hu|hu
  .exact ae (by rw[<-hu,e])
  rw[e]at hu;simp only[Option.some.injEq]at hu;omega
 obtain⟨w'',ag,hM,aa⟩:=(h1.kept hg ae).put GF FO underlying97 hc (EB underlying3 (a:=(x:Int)) (by omega) (by omega)) u
 have d:∀i,i<n->i≠x->Qy (v i) u:=fun i hi ai b hb e=>by
  rcases hu with hu|hu
  .exact h.apart i x hi hx ai b hb (by rw[<-hu,e])
  have:=((h.rows i hi).lt b hb).2;rw[e]at hu;simp only[Option.some.injEq]at hu;omega
 have af:EG ls x q x≠[]:=by simp[EG]
 refine⟨w'',ag,⟨⟨Iu f (x:Int) (some u),?_,fun y hy=>?_⟩,fun y hy he=>?_,fun y hy=>?_,fun i j hi hj ad=>?_,fun y hy=>?_⟩,aa⟩
 .have e:(if (f (x:Int)).isSome then c else c+1)=if ls x=[] then c+1 else c:=by
   rw[h2 x hx]
   by_cases e:ls x=[]
   .rw[zF e,zF e];rfl
   rw[zE e,zE e];rfl
  rw[e]at hM;exact hM
 .by_cases e:y=x
  .subst e;rw[Be,zE af,zF rfl]
  rw[Bh (fun c=>e (by omega)),h2 y hy,zE e];have:EG ls x q y=ls y:=zE e;rw[this]
 .by_cases e:y=x
  .subst e;exact absurd he af
  rw[zE e];have:EG ls x q y=ls y:=zE e;rw[this]at he;exact h.nil y hy he
 .by_cases e:y=x
  .subst e;rw[zF rfl];have:EG ls y q y=ls y++[q]:=zF rfl;rw[this,zX,E4];refine ho.kept aa ?_
   cases hv:u.ownBlock with
   |none=>exact .inl rfl
   |some b=>exact .inr fun c=>ah (by rw[hv,c])
  rw[zE e];have:EG ls x q y=ls y:=zE e;rw[this];refine((h.rows y hy).kept hg ?_).kept aa ?_
  .cases hv:(v y).ownBlock with
   |none=>exact .inl rfl
   |some b=>exact .inr fun c=>h.apart y x hy hx e b hv c.symm
  cases hv:(v y).ownBlock with
  |none=>exact .inl rfl
  |some b=>exact .inr fun c=>h.ne y hy (by rw[hv,c])
 .by_cases e1:i=x
  .have e2:j≠x:=fun c=>ad (by rw[e1,c]);rw[zF e1,zE e2];exact fun b hb hc=>d j hj e2 b hc hb
  rw[zE e1]
  by_cases e2:j=x
  .rw[zF e2];exact d i hi e1
  rw[zE e2];exact h.apart i j hi hj ad
 by_cases e:y=x
 .rw[zF e];exact ah
 rw[zE e];exact h.ne y hy
theorem Dy{W:World}{base n:Nat}{e:TypeId}{u:Value}{xs:List Value}(h:W.ownsRow base e 1 u n xs):∃A cap,u=.slice A n cap:=by
 rcases h.2 with⟨rfl,rfl⟩|⟨g,cap,_,rfl,_⟩
 .exact⟨none,0,rfl⟩
 exact⟨_,cap,rfl⟩
theorem T0{xs:List Nat}{base m:Nat}{e:TypeId}{u:Value}{l:List Value}{w:World}(h:w.ownsRow base e 1 u m l)(hk:Kp xs w w')(hb:∀b,u.ownBlock=some b->b∉xs):w'.ownsRow base e 1 u m l:=by
 obtain⟨h1,h2⟩:=h;refine⟨h1,?_⟩
 rcases h2 with h2|⟨g,cap,cur,hv,hg,hh,rest⟩
 .exact .inl h2
 exact .inr ⟨g,cap,cur,hv,hg,(hk.block g (Array.getElem?_eq_some_iff.1 hh).1 (hb g (by rw[hv];rfl))).trans hh,rest⟩
structure RoI(w:World)(b n:Nat)(o:Nat->Int):Prop where
 lt:b<w.heap.size
 cell:∀x,x<n->w.cell? ⟨b,x,none⟩=some (.int .i64 (o x))
 fr:∀x,w.frozen? ⟨b,x,none⟩=false
theorem RoI.of_block{o:Nat->Int}(h:RoI w b n o)(hs:w.heap.size<=w'.heap.size)(hb:w'.heap[b]? = w.heap[b]?):RoI w' b n o :=
 ⟨zJ h.lt hs,fun x hx=>(zU (a:=⟨b,x,none⟩) hb).trans (h.cell x hx),fun x=>(yF (a:=⟨b,x,none⟩) hb).trans (h.fr x)⟩
theorem RoI.below{o:Nat->Int}(h:RoI w b n o)(hb:Below w.heap.size w w'):RoI w' b n o:=h.of_block hb.size (hb.block b h.lt)
theorem RoI.grown{o:Nat->Int}{row:Option Nat}(h:RoI w b n o)(hg:w.grownBy w' row)(hr:row≠some b):RoI w' b n o:=h.of_block hg.size (hg.block b h.lt fun e=>hr e.symm)
theorem RoI.alloc{o:Nat->Int}(h:RoI w b n o)(x:Obj):RoI (w.alloc x) b n o:=h.below ((zI _ w).alloc (zB _) x)
theorem RoI.set{o:Nat->Int}(h:RoI w b n o){x:Nat}(hx:x<n)(r:Int):RoI (w.setCell ⟨b,x,none⟩ (.int .i64 r)) b n (Er o x r):=by
 refine⟨by simpa using h.lt,fun y hy=>?_,fun y=>by simpa using h.fr y⟩
 by_cases e:y=x
 .subst e;rw[Bb];exact xN _ _ _ (h.cell y hy)
 rw[AI e,yu _ _ _ _ (fun c=>by injection c with _ c2;first|exact e c2|exact e c2.symm)];exact h.cell y hy
theorem RoI.made(w:World)(n:Nat)(t:TypeId):RoI (w.alloc (.cells (madeCells #[.int .i64 0] n) t)) w.heap.size n fun _=>0:=by
 have h:=ym w (.cells (madeCells #[(.int .i64 0:Value)] n) t);refine⟨by simp,fun x hx=>?_,fun x=>by simp only[World.frozen?,h];simp⟩;simp only[World.cell?,h];simp[madeCells,hx];rw[qB];rfl
theorem RoI.of_row{r:Int}{t:TypeId}(h:w.heap[b]? = some (.cells (List.replicate n (.int .i64 r)).toArray t (0,0))):RoI w b n fun _=>r:=by
 refine⟨(Array.getElem?_eq_some_iff.1 h).1,fun x hx=>?_,fun x=>by simp[World.frozen?,h]⟩;simp[World.cell?,h,hx]
theorem RoI.congr{o o':Nat->Int}(h:RoI w b n o)(e:∀x,x<n->o x=o' x):RoI w b n o':=⟨h.lt,fun x hx=>by rw[<-e x hx];exact h.cell x hx,h.fr⟩
end
end Ci
end
section
open Go.RowKit Go.Shelf
namespace Sh
open Nt Ci
def T1(k:Nat):Code->Bool
 |.region a _ _=>a==k
 |_=>false
theorem OY(s x y:Rat)(hs:ShortQ s)(hx:ShortQ x)(hy:ShortQ y)(d:ShortQ (x*y))(w:World)(hE:Env w):
 Calls prog 76 #[.agg #[.bool (rq s).1,.string (rq s).2.1,.string (rq s).2.2],.agg #[.bool (rq x).1,.string (rq x).2.1,.string (rq x).2.2],.agg #[.bool (rq y).1,.string (rq y).2.1,.string (rq y).2.2]] w fun e w'=>e=.returned (.agg #[.bool (rq (s+x*y)).1,.string (rq (s+x*y)).2.1,.string (rq (s+x*y)).2.2])/\Below w.heap.size w w' :=
 NO s x y hs hx hy d w hE
noncomputable def bdR(j:Nat):Code:=((Tryz.f38.body.map Ci.Bl).bind fun l=>l.find? (T1 j)).getD .skip
theorem YK{c0 c1 c2 c3 c4 c5 c7 c8 ar au av aw ax ay az aA aB aC aD aE aF aG aH aI aJ aK aL aM aN aO aP aQ aR aS aT aU aV aW aX aY aZ a0 a1 a2 a3 a4 a5 a6 a7 a8 a9 ba bb bc bd be bf bg bh bi bj bk bm bn bo bp bq br bs bt bu bv bw bx bz bA bB bC bD bE bF bG bH bI bJ ai aj ak al am an ao ap bK bL bM bN bO bP bQ bR bS bT bU:Value}{Q:Exit->Act->World->Prop}(mnb rb lb m k:Nat)(r:Nat->Raw)(q part:Rat)(c0v c1v:Value)(w:World)(hE:Env w)(hk:k<m)(_hm:m<=1000)(hr:RowB w rb m r)(bY:r k=rq q)(ae:Bk w mnb 48 [.bool (rq (-1)).1,.string (rq (-1)).2.1,.string (rq (-1)).2.2])(hl:Bk w lb 106 [c0v,c1v,.bool (rq part).1,.string (rq part).2.1,.string (rq part).2.2])(n1:rb≠mnb)(n2:rb≠lb)(h1:ShortQ q)(h2:ShortQ part)(h3:ShortQ (-1*part))
 (h:∀(u67 u68 u69 u70 u71 u72 u73 u74 u75 u76 u77:Value)(W:World)(_:Hid (RowB W rb m fun j=>if j=k then rq (q+-1*part) else r j))(_:Hid (Kp [rb] w W)),Q .normal ⟨#[c0,c1,c2,c3,c4,c5,.pointer (some ⟨mnb,0,none⟩),c7,c8,.slice (some ⟨rb,0,none⟩) m m,ar,au,av,.pointer (some ⟨lb,0,none⟩),.int .i64 (k:Int),aw,ax,ay,az,aA,aB,aC,aD,aE,aF,aG,aH,aI,aJ,aK,aL,aM,aN,aO,aP,aQ,aR,aS,aT,aU,aV,aW,aX,aY,aZ,a0,a1,a2,a3,a4,a5,a6,a7,a8,a9,ba,bb,bc,bd,be,bf,bg,bh,bi,bj,bk,bm,u67,u68,u69,u70,u71,u72,u73,u74,u75,u76,u77,bn,bo,bp,bq,br,bs,bt,bu,bv,bw,bx,bz,bA,bB,bC,bD,bE,bF,bG,bH,bI,bJ,ai,aj,ak,al,am,an,ao,ap],[]⟩ W):
 Code.wp prog (bdR 19) Q ⟨#[c0,c1,c2,c3,c4,c5,.pointer (some ⟨mnb,0,none⟩),c7,c8,.slice (some ⟨rb,0,none⟩) m m,ar,au,av,.pointer (some ⟨lb,0,none⟩),.int .i64 (k:Int),aw,ax,ay,az,aA,aB,aC,aD,aE,aF,aG,aH,aI,aJ,aK,aL,aM,aN,aO,aP,aQ,aR,aS,aT,aU,aV,aW,aX,aY,aZ,a0,a1,a2,a3,a4,a5,a6,a7,a8,a9,ba,bb,bc,bd,be,bf,bg,bh,bi,bj,bk,bm,bK,bL,bM,bN,bO,bP,bQ,bR,bS,bT,bU,bn,bo,bp,bq,br,bs,bt,bu,bv,bw,bx,bz,bA,bB,bC,bD,bE,bF,bG,bH,bI,bJ,ai,aj,ak,al,am,an,ao,ap],[]⟩ w:=by
 conv=>arg 2;whnf
 conv=>arg 4;zeta
 replace h:=zh h;have ag:Hid (Below w.heap.size w w.drew):=(zI _ w).drew;have kp:=zh (fun W hW=>OY q (-1) part h1 (by decide +kernel) h2 h3 W hW);have aq:Hid (RowB w.drew rb m r):=hr;have rl:=hr.lt;have ah:Hid (∀W,Below w.heap.size w W->W.cell? ⟨mnb,0,none⟩=some (.bool (rq (-1)).1)/\W.cell? ⟨mnb,1,none⟩=some (.string (rq (-1)).2.1)/\W.cell? ⟨mnb,2,none⟩=some (.string (rq (-1)).2.2)/\W.cell? ⟨lb,2,none⟩=some (.bool (rq part).1)/\W.cell? ⟨lb,3,none⟩=some (.string (rq part).2.1)/\W.cell? ⟨lb,4,none⟩=some (.string (rq part).2.2)):=fun W h=>⟨(ae.below h).c0,(ae.below h).c1,(ae.below h).c2,(hl.below h).c2,(hl.below h).c3,(hl.below h).c4⟩;have j0:(0:Int)<=(k:Int):=by omega
 have j1:(k:Int)<(m:Int):=by omega
 replace hE:=zh hE;replace hr:=zh hr;replace ae:=zh ae;replace hl:=zh hl;clear h1 h2 h3;refine xR ?_;refine xG (S:=fun W=>W.cell? ⟨mnb,0,none⟩=some (.bool (rq (-1)).1)/\W.cell? ⟨mnb,1,none⟩=some (.string (rq (-1)).2.1)/\W.cell? ⟨mnb,2,none⟩=some (.string (rq (-1)).2.2)/\W.cell? ⟨lb,2,none⟩=some (.bool (rq part).1)/\W.cell? ⟨lb,3,none⟩=some (.string (rq part).2.1)/\W.cell? ⟨lb,4,none⟩=some (.string (rq part).2.2)) (by kernel_rfl) (ah.o _ ag.o) (fun aa=>?_);replace aa:=zh aa;refine tkhE (v:=?_) 0 rfl (aa.o) (Or.inl ⟨by rfl,?_⟩) ?_;rotate_left
 . (intro w d;obtain⟨q1,q2,q3,q4,q5,q6⟩:=d;go_simp<;>with_reducible rfl)
 try simp only[Act.put,zA]
 refine tkhE (v:=?_) 1 rfl (aa.o) (Or.inl ⟨by rfl,?_⟩) ?_;rotate_left
 . (intro w d;obtain⟨q1,q2,q3,q4,q5,q6⟩:=d;go_simp<;>with_reducible rfl)
 try simp only[Act.put]
 refine tkhE (v:=?_) 2 rfl (aa.o) (Or.inl ⟨by rfl,?_⟩) ?_;rotate_left
 . (intro w d;obtain⟨q1,q2,q3,q4,q5,q6⟩:=d;go_simp<;>with_reducible rfl)
 try simp only[Act.put]
 refine tkhE (v:=?_) 3 rfl (aa.o) (Or.inl ⟨by rfl,?_⟩) ?_;rotate_left
 . (intro w d;obtain⟨q1,q2,q3,q4,q5,q6⟩:=d;go_simp<;>with_reducible rfl)
 try simp only[Act.put]
 refine tkhE (v:=?_) 4 rfl (aa.o) (Or.inl ⟨by rfl,?_⟩) ?_;rotate_left
 . (intro w d;obtain⟨q1,q2,q3,q4,q5,q6⟩:=d;go_simp<;>with_reducible rfl)
 try simp only[Act.put]
 refine tkhE (v:=?_) 6 rfl (aa.o) (Or.inl ⟨by rfl,?_⟩) ?_;rotate_left
 . (intro w d;obtain⟨q1,q2,q3,q4,q5,q6⟩:=d;go_simp<;>with_reducible rfl)
 try simp only[Act.put]
 refine tkhE (v:=?_) 7 rfl (aa.o) (Or.inl ⟨by rfl,?_⟩) ?_;rotate_left
 . (intro w d;obtain⟨q1,q2,q3,q4,q5,q6⟩:=d;go_simp<;>with_reducible rfl)
 try simp only[Act.put]
 refine tkhE (v:=?_) 8 rfl (aa.o) (Or.inl ⟨by rfl,?_⟩) ?_;rotate_left
 . (intro w d;obtain⟨q1,q2,q3,q4,q5,q6⟩:=d;go_simp<;>with_reducible rfl)
 try simp only[Act.put]
 obtain⟨r1,r2,r3⟩:=aq.o.cell hk;rw[bY]at r1 r2 r3;have bZ:=aq.o.lt;refine zT (rs:=[5]) (by kernel_rfl) (by simp) ?_;refine zK (o:=_) rfl (fun K hK=>?_) ?_
 .go_simp;clear r1 r2 r3;refine hK.o _ _ (ah.o _ ag.o) (fun _=>?_);clear hK K
  try simp only[Act.put,zA,zD,zC]
  refine zT (rs:=[9]) (by kernel_rfl) (by simp) ?_;refine zK (o:=_) rfl (fun K hK=>?_) ?_
  .go_simp;refine(kp.o _ (hE.o.below ag.o)).q fun W2 hb=>?_;have ad:Hid (Below w.heap.size w W2):=ag.o.trans (hb.mono ag.o.size);have af:Hid (RowB W2 rb m r):=aq.o.below hb bZ;clear hb;refine hK.o _ _ (ah.o _ ad.o) (fun _=>?_);clear hK K
   try simp only[Act.put,zA,zD,zC]
   refine tkhE (v:=?_) 10 rfl (ah.o _ ad.o) (Or.inl ⟨by rfl,?_⟩) ?_;rotate_left
   . (intro w d;obtain⟨q1,q2,q3,q4,q5,q6⟩:=d;go_simp<;>with_reducible rfl)
   try simp only[Act.put,zA]
   obtain⟨r1,r2,r3⟩:=af.o.cell hk;have f1:=af.o.frozen (k*3);have f2:=af.o.frozen (k*3+1);have f3:=af.o.frozen (k*3+2);have b0:=af.o.lt;have bX:Hid (RowB (((W2.setCell ⟨rb,k*3,none⟩ (.bool (rq (q+-1*part)).1)).setCell ⟨rb,k*3+1,none⟩ (.string (rq (q+-1*part)).2.1)).setCell ⟨rb,k*3+2,none⟩ (.string (rq (q+-1*part)).2.2)) rb m fun j=>if j=k then rq (q+-1*part) else r j):=af.o.set hk _;have bW:Hid (Kp [rb] w (((W2.setCell ⟨rb,k*3,none⟩ (.bool (rq (q+-1*part)).1)).setCell ⟨rb,k*3+1,none⟩ (.string (rq (q+-1*part)).2.1)).setCell ⟨rb,k*3+2,none⟩ (.string (rq (q+-1*part)).2.2))):=((((Kp.refl [rb] w).below ad.o).set (a:=⟨rb,k*3,none⟩) _ (.inl (by simp))).set (a:=⟨rb,k*3+1,none⟩) _ (.inl (by simp))).set (a:=⟨rb,k*3+2,none⟩) _ (.inl (by simp));refine zT (rs:=[11]) (by kernel_rfl) (by simp) ?_;refine zK (o:=_) rfl (fun K hK=>?_) ?_
   .go_simp;refine hK.o _ _ (⟨((((ae.o.below ad.o).far (p:=⟨rb,k*3,none⟩) n1.symm _).far (p:=⟨rb,k*3+1,none⟩) n1.symm _).far (p:=⟨rb,k*3+2,none⟩) n1.symm _).c0,((((ae.o.below ad.o).far (p:=⟨rb,k*3,none⟩) n1.symm _).far (p:=⟨rb,k*3+1,none⟩) n1.symm _).far (p:=⟨rb,k*3+2,none⟩) n1.symm _).c1,((((ae.o.below ad.o).far (p:=⟨rb,k*3,none⟩) n1.symm _).far (p:=⟨rb,k*3+1,none⟩) n1.symm _).far (p:=⟨rb,k*3+2,none⟩) n1.symm _).c2,((((hl.o.below ad.o).far (p:=⟨rb,k*3,none⟩) n2.symm _).far (p:=⟨rb,k*3+1,none⟩) n2.symm _).far (p:=⟨rb,k*3+2,none⟩) n2.symm _).c2,((((hl.o.below ad.o).far (p:=⟨rb,k*3,none⟩) n2.symm _).far (p:=⟨rb,k*3+1,none⟩) n2.symm _).far (p:=⟨rb,k*3+2,none⟩) n2.symm _).c3,((((hl.o.below ad.o).far (p:=⟨rb,k*3,none⟩) n2.symm _).far (p:=⟨rb,k*3+1,none⟩) n2.symm _).far (p:=⟨rb,k*3+2,none⟩) n2.symm _).c4⟩) (fun _=>?_);clear hK K
    try simp only[Act.put,zA,zD,zC]
    refine xJ (by kernel_rfl) ?_ _;refine yx ?_;exact h.o _ _ _ _ _ _ _ _ _ _ _ _ bX bW
   exact zR
  exact zR
 exact zR
theorem YL{c0 c1 c3 c4 c5 c6 c7 c8 c9 aw ax ay az aA aB aC aD aE aF aG aH aI aJ aK aL aM aN aO aP aQ aR aS aT aU aV aW aX aY aZ a0 a1 a2 a3 a4 a5 a6 a7 a8 a9 ba bb bc bd be bf bg bh bi bj bk bm bn bo bp bq br bs bt bu bv bw bx bz bA bB bC bD bE bF bG bH bI bJ bK bL bM bN bO bP ak al am an ao ap aq ar a78 a79 bQ bR bS bT bU bW:Value}{Q:Exit->Act->World->Prop}(gb lb vb:Nat)(hh:Int)(r0 part v:Rat)(c0v:Value)(w:World)(hE:Env w)(hg:Bk w gb 48 [.bool (rq r0).1,.string (rq r0).2.1,.string (rq r0).2.2])(hl:Bk w lb 106 [c0v,.int .i64 hh,.bool (rq part).1,.string (rq part).2.1,.string (rq part).2.2])(n1:gb≠lb)(h1:ShortQ r0)(h2:ShortQ part)(h3:ShortQ v)(h4:ShortQ (part*v))(kv:∀W,Below w.heap.size w W->Calls prog 37 #[.int .i64 hh,.pointer (some ⟨vb,0,none⟩)] W fun e w'=>e=.returned (.agg #[.bool (rq v).1,.string (rq v).2.1,.string (rq v).2.2])/\Below W.heap.size W w')
 (h:∀(u78 u79 u80 u81 u82 u83 u84 u85:Value)(W:World)(_:Hid (Bk W gb 48 [.bool (rq (r0+part*v)).1,.string (rq (r0+part*v)).2.1,.string (rq (r0+part*v)).2.2]))(_:Hid (Kp [gb] w W)),Q .normal ⟨#[c0,c1,.func (.func 37) #[] #[.pointer (some ⟨vb,0,none⟩)],c3,c4,c5,c6,c7,c8,c9,aw,.pointer (some ⟨gb,0,none⟩),ax,.pointer (some ⟨lb,0,none⟩),ay,az,aA,aB,aC,aD,aE,aF,aG,aH,aI,aJ,aK,aL,aM,aN,aO,aP,aQ,aR,aS,aT,aU,aV,aW,aX,aY,aZ,a0,a1,a2,a3,a4,a5,a6,a7,a8,a9,ba,bb,bc,bd,be,bf,bg,bh,bi,bj,bk,bm,bn,bo,bp,bq,br,bs,bt,bu,bv,bw,bx,bz,bA,bB,u78,u79,u80,u81,u82,u83,u84,u85,bC,bD,bE,bF,bG,bH,bI,bJ,bK,bL,bM,bN,bO,bP,ak,al,am,an,ao,ap,aq,ar],[]⟩ W):
 Code.wp prog (bdR 20) Q ⟨#[c0,c1,.func (.func 37) #[] #[.pointer (some ⟨vb,0,none⟩)],c3,c4,c5,c6,c7,c8,c9,aw,.pointer (some ⟨gb,0,none⟩),ax,.pointer (some ⟨lb,0,none⟩),ay,az,aA,aB,aC,aD,aE,aF,aG,aH,aI,aJ,aK,aL,aM,aN,aO,aP,aQ,aR,aS,aT,aU,aV,aW,aX,aY,aZ,a0,a1,a2,a3,a4,a5,a6,a7,a8,a9,ba,bb,bc,bd,be,bf,bg,bh,bi,bj,bk,bm,bn,bo,bp,bq,br,bs,bt,bu,bv,bw,bx,bz,bA,bB,a78,a79,bQ,bR,bS,bT,bU,bW,bC,bD,bE,bF,bG,bH,bI,bJ,bK,bL,bM,bN,bO,bP,ak,al,am,an,ao,ap,aq,ar],[]⟩ w:=by
 conv=>arg 2;whnf
 conv=>arg 4;zeta
 replace h:=zh h;have af:Hid (Below w.heap.size w w.drew):=(zI _ w).drew;have kp:=zh (fun W hW=>OY r0 part v h1 h2 h3 h4 W hW);have aj:Hid (Bk w.drew gb 48 [.bool (rq r0).1,.string (rq r0).2.1,.string (rq r0).2.2]):=hg.below (zI _ w).drew;have gl:=hg.lt;have ah:Hid (∀W,Below w.heap.size w W->W.cell? ⟨lb,1,none⟩=some (.int .i64 hh)/\W.cell? ⟨lb,2,none⟩=some (.bool (rq part).1)/\W.cell? ⟨lb,3,none⟩=some (.string (rq part).2.1)/\W.cell? ⟨lb,4,none⟩=some (.string (rq part).2.2)):=fun W hb=>⟨(hl.below hb).c1,(hl.below hb).c2,(hl.below hb).c3,(hl.below hb).c4⟩;replace hE:=zh hE;replace hg:=zh hg;replace hl:=zh hl;replace kv:=zh kv;clear h1 h2 h3 h4;refine xR ?_;refine xG (S:=fun W=>W.cell? ⟨lb,1,none⟩=some (.int .i64 hh)/\W.cell? ⟨lb,2,none⟩=some (.bool (rq part).1)/\W.cell? ⟨lb,3,none⟩=some (.string (rq part).2.1)/\W.cell? ⟨lb,4,none⟩=some (.string (rq part).2.2)) (by kernel_rfl) (ah.o _ af.o) (fun ag=>?_);replace ag:=zh ag;refine tkhE (v:=?_) 1 rfl (ag.o) (Or.inl ⟨by rfl,?_⟩) ?_;rotate_left
 . (intro w ae;obtain⟨q1,q2,q3,q4⟩:=ae;go_simp<;>with_reducible rfl)
 try simp only[Act.put,zA]
 refine tkhE (v:=?_) 2 rfl (ag.o) (Or.inl ⟨by rfl,?_⟩) ?_;rotate_left
 . (intro w ae;obtain⟨q1,q2,q3,q4⟩:=ae;go_simp<;>with_reducible rfl)
 try simp only[Act.put]
 refine tkhE (v:=?_) 3 rfl (ag.o) (Or.inl ⟨by rfl,?_⟩) ?_;rotate_left
 . (intro w ae;obtain⟨q1,q2,q3,q4⟩:=ae;go_simp<;>with_reducible rfl)
 try simp only[Act.put]
 refine tkhE (v:=?_) 4 rfl (ag.o) (Or.inl ⟨by rfl,?_⟩) ?_;rotate_left
 . (intro w ae;obtain⟨q1,q2,q3,q4⟩:=ae;go_simp<;>with_reducible rfl)
 try simp only[Act.put]
 refine tkhE (v:=?_) 5 rfl (ag.o) (Or.inl ⟨by rfl,?_⟩) ?_;rotate_left
 . (intro w ae;obtain⟨q1,q2,q3,q4⟩:=ae;go_simp<;>with_reducible rfl)
 try simp only[Act.put]
 refine zT (rs:=[0,6]) (by kernel_rfl) (by simp) ?_;have t1:=aj.o.c0;have t2:=aj.o.c1;have t3:=aj.o.c2;have t7:=aj.o.lt;refine zK (o:=_) rfl (fun K hK=>?_) ?_
 .go_simp;clear t1 t2 t3 t7;refine hK.o _ _ (ah.o _ af.o) (fun _=>?_);clear hK K
  try simp only[Act.put,zA,zD,zC]
  refine zT (rs:=[6]) (by kernel_rfl) (by simp) ?_;refine zK (o:=_) rfl (fun K hK=>?_) ?_
  .go_simp;refine(kv.o _ af.o).q fun W2 hb=>?_;have ad:Hid (Below w.heap.size w W2):=af.o.trans (hb.mono af.o.size);have ai:=zh (aj.o.below hb);clear hb;refine hK.o _ _ (ah.o _ ad.o) (fun _=>?_);clear hK K
   try simp only[Act.put,zA,zD,zC]
   refine zT (rs:=[7]) (by kernel_rfl) (by simp) ?_;refine zK (o:=_) rfl (fun K hK=>?_) ?_
   .go_simp;refine(kp.o _ (hE.o.below ad.o)).q fun W3 hb=>?_;have aa:Hid (Below w.heap.size w W3):=ad.o.trans (hb.mono ad.o.size);have d:=zh (ai.o.below hb);clear hb;refine hK.o _ _ (ah.o _ aa.o) (fun _=>?_);clear hK K
    try simp only[Act.put,zA,zD,zC]
    have av:Hid (Bk (((W3.setCell ⟨gb,0,none⟩ (.bool (rq (r0+part*v)).1)).setCell ⟨gb,1,none⟩ (.string (rq (r0+part*v)).2.1)).setCell ⟨gb,2,none⟩ (.string (rq (r0+part*v)).2.2)) gb 48 [.bool (rq (r0+part*v)).1,.string (rq (r0+part*v)).2.1,.string (rq (r0+part*v)).2.2]):=((d.o.set 0 (.bool (rq (r0+part*v)).1)).set 1 (.string (rq (r0+part*v)).2.1)).set 2 (.string (rq (r0+part*v)).2.2);have au:Hid (Kp [gb] w (((W3.setCell ⟨gb,0,none⟩ (.bool (rq (r0+part*v)).1)).setCell ⟨gb,1,none⟩ (.string (rq (r0+part*v)).2.1)).setCell ⟨gb,2,none⟩ (.string (rq (r0+part*v)).2.2))):=((((Kp.refl [gb] w).below aa.o).set (a:=⟨gb,0,none⟩) _ (.inl (by simp))).set (a:=⟨gb,1,none⟩) _ (.inl (by simp))).set (a:=⟨gb,2,none⟩) _ (.inl (by simp));have t1:=d.o.c0;have t2:=d.o.c1;have t3:=d.o.c2;have t4:=d.o.frozen 0;have t5:=d.o.frozen 1;have t6:=d.o.frozen 2;have t7:=d.o.lt;refine zT (rs:=[8]) (by kernel_rfl) (by simp) ?_;refine zK (o:=_) rfl (fun K hK=>?_) ?_
    .go_simp;refine hK.o _ _ (⟨((((hl.o.below aa.o).far (p:=⟨gb,0,none⟩) n1.symm _).far (p:=⟨gb,1,none⟩) n1.symm _).far (p:=⟨gb,2,none⟩) n1.symm _).c1,((((hl.o.below aa.o).far (p:=⟨gb,0,none⟩) n1.symm _).far (p:=⟨gb,1,none⟩) n1.symm _).far (p:=⟨gb,2,none⟩) n1.symm _).c2,((((hl.o.below aa.o).far (p:=⟨gb,0,none⟩) n1.symm _).far (p:=⟨gb,1,none⟩) n1.symm _).far (p:=⟨gb,2,none⟩) n1.symm _).c3,((((hl.o.below aa.o).far (p:=⟨gb,0,none⟩) n1.symm _).far (p:=⟨gb,1,none⟩) n1.symm _).far (p:=⟨gb,2,none⟩) n1.symm _).c4⟩) (fun _=>?_);clear hK K
     try simp only[Act.put,zA,zD,zC]
     refine xJ (by kernel_rfl) ?_ _;refine yx ?_;exact h.o _ _ _ _ _ _ _ _ _ av au
    exact zR
   exact zR
  exact zR
 clear t1 t2 t3 t7;refine zK (o:=_) rfl (fun K hK=>?_) ?_
 .go_simp;refine(kv.o _ af.o).q fun W2 hb=>?_;have ad:Hid (Below w.heap.size w W2):=af.o.trans (hb.mono af.o.size);have ai:=zh (aj.o.below hb);clear hb;refine hK.o _ _ (ah.o _ ad.o) (fun _=>?_);clear hK K
  try simp only[Act.put,zA,zD,zC]
  refine zT (rs:=[0]) (by kernel_rfl) (by simp) ?_;have t1:=ai.o.c0;have t2:=ai.o.c1;have t3:=ai.o.c2;have t7:=ai.o.lt;refine zK (o:=_) rfl (fun K hK=>?_) ?_
  .go_simp;clear t1 t2 t3 t7;refine hK.o _ _ (ah.o _ ad.o) (fun _=>?_);clear hK K
   try simp only[Act.put,zA,zD,zC]
   refine zT (rs:=[7]) (by kernel_rfl) (by simp) ?_;refine zK (o:=_) rfl (fun K hK=>?_) ?_
   .go_simp;refine(kp.o _ (hE.o.below ad.o)).q fun W3 hb=>?_;have aa:Hid (Below w.heap.size w W3):=ad.o.trans (hb.mono ad.o.size);have d:=zh (ai.o.below hb);clear hb;refine hK.o _ _ (ah.o _ aa.o) (fun _=>?_);clear hK K
    try simp only[Act.put,zA,zD,zC]
    have av:Hid (Bk (((W3.setCell ⟨gb,0,none⟩ (.bool (rq (r0+part*v)).1)).setCell ⟨gb,1,none⟩ (.string (rq (r0+part*v)).2.1)).setCell ⟨gb,2,none⟩ (.string (rq (r0+part*v)).2.2)) gb 48 [.bool (rq (r0+part*v)).1,.string (rq (r0+part*v)).2.1,.string (rq (r0+part*v)).2.2]):=((d.o.set 0 (.bool (rq (r0+part*v)).1)).set 1 (.string (rq (r0+part*v)).2.1)).set 2 (.string (rq (r0+part*v)).2.2);have au:Hid (Kp [gb] w (((W3.setCell ⟨gb,0,none⟩ (.bool (rq (r0+part*v)).1)).setCell ⟨gb,1,none⟩ (.string (rq (r0+part*v)).2.1)).setCell ⟨gb,2,none⟩ (.string (rq (r0+part*v)).2.2))):=((((Kp.refl [gb] w).below aa.o).set (a:=⟨gb,0,none⟩) _ (.inl (by simp))).set (a:=⟨gb,1,none⟩) _ (.inl (by simp))).set (a:=⟨gb,2,none⟩) _ (.inl (by simp));have t1:=d.o.c0;have t2:=d.o.c1;have t3:=d.o.c2;have t4:=d.o.frozen 0;have t5:=d.o.frozen 1;have t6:=d.o.frozen 2;have t7:=d.o.lt;refine zT (rs:=[8]) (by kernel_rfl) (by simp) ?_;refine zK (o:=_) rfl (fun K hK=>?_) ?_
    .go_simp;refine hK.o _ _ (⟨((((hl.o.below aa.o).far (p:=⟨gb,0,none⟩) n1.symm _).far (p:=⟨gb,1,none⟩) n1.symm _).far (p:=⟨gb,2,none⟩) n1.symm _).c1,((((hl.o.below aa.o).far (p:=⟨gb,0,none⟩) n1.symm _).far (p:=⟨gb,1,none⟩) n1.symm _).far (p:=⟨gb,2,none⟩) n1.symm _).c2,((((hl.o.below aa.o).far (p:=⟨gb,0,none⟩) n1.symm _).far (p:=⟨gb,1,none⟩) n1.symm _).far (p:=⟨gb,2,none⟩) n1.symm _).c3,((((hl.o.below aa.o).far (p:=⟨gb,0,none⟩) n1.symm _).far (p:=⟨gb,1,none⟩) n1.symm _).far (p:=⟨gb,2,none⟩) n1.symm _).c4⟩) (fun _=>?_);clear hK K
     try simp only[Act.put,zA,zD,zC]
     refine xJ (by kernel_rfl) ?_ _;refine yx ?_;exact h.o _ _ _ _ _ _ _ _ _ av au
    exact zR
   exact zR
  exact zR
 exact zR
theorem KO{W:World}{b:Nat}{v:Value}(h:W.cell? ⟨b,0,none⟩=some v):∀j u,[v][j]? = some u->W.cell? ((⟨b,0,none⟩:Addr).add j)=some u:=by
 intro j u hj
 match j,hj with
 |0,hj=>simp only[zz,Option.some.injEq]at hj;subst hj;simpa [Addr.add] using h
 |j+1,hj=>simp at hj
theorem T3{W:World}{b:Nat}{x y z:Value}(h0:W.cell? ⟨b,0,none⟩=some x)(h1:W.cell? ⟨b,1,none⟩=some y)(h2:W.cell? ⟨b,2,none⟩=some z):∀j u,[x,y,z][j]? = some u->W.cell? ((⟨b,0,none⟩:Addr).add j)=some u:=by
 intro j u hj
 match j,hj with
 |0,hj=>simp at hj;subst hj;simpa [Addr.add] using h0
 |1,hj=>simp at hj;subst hj;simpa [Addr.add] using h1
 |2,hj=>simp at hj;subst hj;simpa [Addr.add] using h2
 |j+3,hj=>simp at hj
theorem Q4{P:Program}{md:Region.Mode}{ops:Array Oper}{Q:Exit->Act->World->Prop}{S:World->Prop}{n:Nat}{l:Array Bool}{a:Act}{w:World}
 (h:∀F:Nat->Array Bool->Act->World->Prop,F=wpAnyH P md ops Q S->F n l a w):wpAnyH P md ops Q S n l a w:=h _ rfl
theorem Xh{F:Nat->Array Bool->Act->World->Prop}{n n':Nat}{l l':Array Bool}{a a':Act}{w:World}(hn:n'=n)(hl:l'=l)(ha:a'=a)(h:F n l a w):F n' l' a' w:=by rw[hn,hl,ha];exact h
theorem Ej{W:World}{base n m:Nat}{e:TypeId}{u:Value}{xs:List Value}(h:W.ownsRow base e m u n xs):∃A cap,u=.slice A n cap:=by
 rcases h.2 with⟨rfl,h0⟩|⟨g,cap,cur,rfl,_⟩
 .exact⟨none,0,by rw[h0]⟩
 exact⟨_,cap,rfl⟩
structure G22(xb gb:Nat)(uv:Value)(Aa Ab:Option Addr)(i ca cb:Nat)(x:Raw)(w W:World):Prop where
 k:Kp (xb::((Value.slice Aa i ca).ownBlock.toList++(Value.slice Ab i cb).ownBlock.toList)) w W
 y:Bk W xb 84 [uv,.slice Aa i ca,.slice Ab i cb]
 b:Bk W gb 48 [.bool x.1,.string x.2.1,.string x.2.2]
theorem G22.alloc{xb gb:Nat}{uv:Value}{Aa Ab:Option Addr}{i ca cb:Nat}{x:Raw}{w W:World}(h:G22 xb gb uv Aa Ab i ca cb x w W)(o:Obj):G22 xb gb uv Aa Ab i ca cb x w (W.alloc o):=⟨h.k.alloc o,h.y.alloc o,h.b.alloc o⟩
theorem Ai{W:World}{b:Nat}{t:TypeId}{v0 v1 v2:Value}(h:Bk W b t [v0,v1,v2]):W.cell? ⟨b,0,none⟩=some v0/\W.cell? ⟨b,1,none⟩=some v1/\W.cell? ⟨b,2,none⟩=some v2:=⟨h.c0,h.c1,h.c2⟩
theorem IC{x:Nat}{w W W':World}{L:List Nat}{o:Option Nat}(h:Kp (x::L) w W)(hg:W.grownBy W' o)(hl:∀b,o=some b->b∈L\/w.heap.size<=b):Kp (x::L) w W' :=
 h.grown hg fun b e=>(hl b e).imp (zY _) id
theorem YM{c1 c2 c3 c4 c5 c6 c7 c8 aN aO aP ad aQ aR aS aT aU aV aW aX aY aZ a0 a1 a2 a3 a4 a5 a6 a7 a8 a9 ba bb bc bd be bf bg bh bi bj bk bm bn bo bp bq br bs bt bu bv bw bx bz bA bB bC bD bE bF bG bH bI bJ bK bL bM bN bO bP bQ bR bS bT bU bW bX bY bZ b0 b1 b2 aF cf cg a89 ch ci ay cj az an ck cm cn av b5 am ag aJ aK aL aM:Value}{Q:Exit->Act->World->Prop}(xb gb rb m i ca cb B1:Nat)(Aa Ab:Option Addr)(uv:Value)(aj cbs:List Value)(x:Raw)(w:World)(hi:i<=1000)(hx:Bk w xb 84 [uv,.slice Aa i ca,.slice Ab i cb])(hb:Bk w gb 48 [.bool x.1,.string x.2.1,.string x.2.2])(ngx:gb≠xb)(aC:B1<=w.heap.size)(b8:xb<B1)(oa:w.ownsRow B1 39 1 (Value.slice Aa i ca) i aj)(ob:w.ownsRow B1 48 3 (Value.slice Ab i cb) i cbs)(ap:∀b,(Value.slice Aa i ca).ownBlock=some b->(Value.slice Ab i cb).ownBlock≠some b)(nga:(Value.slice Aa i ca).ownBlock≠some gb)(ngb:(Value.slice Ab i cb).ownBlock≠some gb)
 (h:∀(u87 u88 u89 u90 u91 u92 u93 u94 u95 u96 u97 u98 u99 u100 u101 u102 u103 u104 u105 u106:Value)(Aa2 Ab2:Option Addr)(af ak:Nat)(W:World)(_:Hid (Kp (xb::((Value.slice Aa i ca).ownBlock.toList++(Value.slice Ab i cb).ownBlock.toList)) w W))(_:Hid (Bk W xb 84 [uv,.slice Aa2 (i+1) af,.slice Ab2 (i+1) ak]))(_:Hid (W.ownsRow B1 39 1 (Value.slice Aa2 (i+1) af) (i+1) (aj++[.slice (some ⟨rb,0,none⟩) m m])))(_:Hid (W.ownsRow B1 48 3 (Value.slice Ab2 (i+1) ak) (i+1) (cbs++[.bool x.1,.string x.2.1,.string x.2.2])))(_:Hid (∀b,(Value.slice Aa2 (i+1) af).ownBlock=some b->(Value.slice Ab2 (i+1) ak).ownBlock≠some b))(_:Hid ((Value.slice Aa2 (i+1) af).ownBlock=(Value.slice Aa i ca).ownBlock\/∃b,(Value.slice Aa2 (i+1) af).ownBlock=some b/\w.heap.size<=b))(_:Hid ((Value.slice Ab2 (i+1) ak).ownBlock=(Value.slice Ab i cb).ownBlock\/∃b,(Value.slice Ab2 (i+1) ak).ownBlock=some b/\w.heap.size<=b)),Q .normal ⟨#[.pointer (some ⟨xb,0,none⟩),c1,c2,c3,c4,c5,c6,c7,c8,.slice (some ⟨rb,0,none⟩) m m,aN,.pointer (some ⟨gb,0,none⟩),aO,aP,ad,aQ,aR,aS,aT,aU,aV,aW,aX,aY,aZ,a0,a1,a2,a3,a4,a5,a6,a7,a8,a9,ba,bb,bc,bd,be,bf,bg,bh,bi,bj,bk,bm,bn,bo,bp,bq,br,bs,bt,bu,bv,bw,bx,bz,bA,bB,bC,bD,bE,bF,bG,bH,bI,bJ,bK,bL,bM,bN,bO,bP,bQ,bR,bS,bT,bU,bW,bX,bY,bZ,b0,b1,b2,u87,u88,u89,u90,u91,u92,u93,u94,u95,u96,u97,u98,u99,u100,u101,u102,u103,u104,u105,u106,aF],[]⟩ W):
 Code.wp prog (bdR 22) Q ⟨#[.pointer (some ⟨xb,0,none⟩),c1,c2,c3,c4,c5,c6,c7,c8,.slice (some ⟨rb,0,none⟩) m m,aN,.pointer (some ⟨gb,0,none⟩),aO,aP,ad,aQ,aR,aS,aT,aU,aV,aW,aX,aY,aZ,a0,a1,a2,a3,a4,a5,a6,a7,a8,a9,ba,bb,bc,bd,be,bf,bg,bh,bi,bj,bk,bm,bn,bo,bp,bq,br,bs,bt,bu,bv,bw,bx,bz,bA,bB,bC,bD,bE,bF,bG,bH,bI,bJ,bK,bL,bM,bN,bO,bP,bQ,bR,bS,bT,bU,bW,bX,bY,bZ,b0,b1,b2,cf,cg,a89,ch,ci,ay,cj,az,an,ck,cm,cn,av,b5,am,ag,aJ,aK,aL,aM,aF],[]⟩ w:=by
 conv=>arg 2;whnf
 conv=>arg 4;zeta
 replace h:=zh h;have ct:Hid (Kp (xb::((Value.slice Aa i ca).ownBlock.toList++(Value.slice Ab i cb).ownBlock.toList)) w w.drew):=(Kp.refl _ w).drew;have cy:Hid (Bk w.drew xb 84 [uv,.slice Aa i ca,.slice Ab i cb]):=hx.below (zI _ w).drew;have b6:Hid (Bk w.drew gb 48 [.bool x.1,.string x.2.1,.string x.2.2]):=hb.below (zI _ w).drew;have cB:=zh (AC oa (zI _ w).drew);have cD:=zh (AC ob (zI _ w).drew);have b7:Hid (∀b,(Value.slice Aa i ca).ownBlock=some b->B1<=b/\b<w.heap.size):=fun b e=>oa.lt b e;have cJ:Hid (∀b,(Value.slice Ab i cb).ownBlock=some b->B1<=b/\b<w.heap.size):=fun b e=>ob.lt b e;have nxa:Hid ((Value.slice Aa i ca).ownBlock≠some xb):=fun e=>by have:=(oa.lt xb e).1;omega
 have nxb:Hid ((Value.slice Ab i cb).ownBlock≠some xb):=fun e=>by have:=(ob.lt xb e).1;omega
 have gl:=hb.lt;have xl:=hx.lt;replace ap:=zh ap;clear oa ob hb hx;replace aC:=zh aC;replace nga:=zh nga;replace ngb:=zh ngb;replace ngx:=zh ngx;replace b8:=zh b8;replace gl:=zh gl;replace xl:=zh xl;have aI:Hid (∀b,(Value.slice Aa i ca).ownBlock=some b->b∈((Value.slice Aa i ca).ownBlock.toList++(Value.slice Ab i cb).ownBlock.toList)\/w.heap.size<=b):=fun b e=>.inl (by rw[e];simp);have cx:Hid (∀b,(Value.slice Ab i cb).ownBlock=some b->b∈((Value.slice Aa i ca).ownBlock.toList++(Value.slice Ab i cb).ownBlock.toList)\/w.heap.size<=b):=fun b e=>.inl (by rw[e];simp);obtain⟨i0,aE,aH⟩:=Option.map_eq_some_iff.1 Tc;simp only[Prod.mk.injEq]at aH;obtain⟨z0i0,z1i0,z2i0⟩:=aH;replace aE:=zh aE;replace z0i0:=zh z0i0;replace z1i0:=zh z1i0;replace z2i0:=zh z2i0;obtain⟨i3,b3,aH⟩:=Option.map_eq_some_iff.1 infoQ;simp only[Prod.mk.injEq]at aH;obtain⟨z0i3,z1i3,z2i3⟩:=aH;replace b3:=zh b3;replace z0i3:=zh z0i3;replace z1i3:=zh z1i3;replace z2i3:=zh z2i3;refine xR ?_;refine xG (S:=fun W=>W.cell? ⟨gb,0,none⟩=some (.bool x.1)/\W.cell? ⟨gb,1,none⟩=some (.string x.2.1)/\W.cell? ⟨gb,2,none⟩=some (.string x.2.2)) (by kernel_rfl) (Ai b6.o) (fun au=>?_);replace au:=zh au;refine tkhE (v:=?_) 0 rfl (au.o) (Or.inl ⟨by rfl,?_⟩) ?_;rotate_left
 . (intro w ai;obtain⟨q1,q2,q3⟩:=ai;go_simp<;>with_reducible rfl)
 try simp only[Act.put,zA]
 refine tkhE (v:=?_) 1 rfl (au.o) (Or.inl ⟨by rfl,?_⟩) ?_;rotate_left
 . (intro w ai;obtain⟨q1,q2,q3⟩:=ai;go_simp<;>with_reducible rfl)
 try simp only[Act.put]
 refine tkhE (v:=?_) 2 rfl (au.o) (Or.inl ⟨by rfl,?_⟩) ?_;rotate_left
 . (intro w ai;obtain⟨q1,q2,q3⟩:=ai;go_simp<;>with_reducible rfl)
 try simp only[Act.put]
 refine tkhE (v:=?_) 3 rfl (au.o) (Or.inl ⟨by rfl,?_⟩) ?_;rotate_left
 . (intro w ai;obtain⟨q1,q2,q3⟩:=ai;go_simp<;>with_reducible rfl)
 try simp only[Act.put]
 refine tkhE (v:=?_) 4 rfl (au.o) (Or.inl ⟨by rfl,?_⟩) ?_;rotate_left
 . (intro w ai;obtain⟨q1,q2,q3⟩:=ai;go_simp<;>with_reducible rfl)
 try simp only[Act.put]
 refine tkhE (v:=?_) 6 rfl (au.o) (Or.inl ⟨by rfl,?_⟩) ?_;rotate_left
 . (intro w ai;obtain⟨q1,q2,q3⟩:=ai;go_simp<;>with_reducible rfl)
 try simp only[Act.put]
 refine tkhE (v:=?_) 9 rfl (au.o) (Or.inl ⟨by rfl,?_⟩) ?_;rotate_left
 . (intro w ai;obtain⟨q1,q2,q3⟩:=ai;go_simp<;>with_reducible rfl)
 try simp only[Act.put]
 refine tkhE (v:=?_) 10 rfl (au.o) (Or.inl ⟨by rfl,?_⟩) ?_;rotate_left
 . (intro w ai;obtain⟨q1,q2,q3⟩:=ai;go_simp<;>with_reducible rfl)
 try simp only[Act.put]
 refine tkhE (v:=?_) 11 rfl (au.o) (Or.inl ⟨by rfl,?_⟩) ?_;rotate_left
 . (intro w ai;obtain⟨q1,q2,q3⟩:=ai;go_simp<;>with_reducible rfl)
 try simp only[Act.put]
 refine tkhE (v:=?_) 13 rfl (au.o) (Or.inl ⟨by rfl,?_⟩) ?_;rotate_left
 . (intro w ai;obtain⟨q1,q2,q3⟩:=ai;go_simp<;>with_reducible rfl)
 try simp only[Act.put]
 clear au;refine Q4 (fun F hF=>?_);replace hF:=zh hF;obtain⟨fr,ae⟩:∃f:Value->Value->Value->Value->Value->Value->Act,f=fun cF cG cH cI b9 cd=>⟨#[.pointer (some ⟨xb,0,none⟩),c1,c2,c3,c4,c5,c6,c7,c8,.slice (some ⟨rb,0,none⟩) m m,aN,.pointer (some ⟨gb,0,none⟩),aO,aP,ad,aQ,aR,aS,aT,aU,aV,aW,aX,aY,aZ,a0,a1,a2,a3,a4,a5,a6,a7,a8,a9,ba,bb,bc,bd,be,bf,bg,bh,bi,bj,bk,bm,bn,bo,bp,bq,br,bs,bt,bu,bv,bw,bx,bz,bA,bB,bC,bD,bE,bF,bG,bH,bI,bJ,bK,bL,bM,bN,bO,bP,bQ,bR,bS,bT,bU,bW,bX,bY,bZ,b0,b1,b2,.pointer (some ⟨xb,0,none⟩),.pointer (some ⟨xb,0,none⟩),.pointer (some ⟨xb,0,none⟩),.pointer (some ⟨xb,0,none⟩),.pointer (some ⟨xb,1,none⟩),cF,.slice (some ⟨rb,0,none⟩) m m,cG,cH,.pointer (some ⟨xb,0,none⟩),.pointer (some ⟨xb,0,none⟩),.pointer (some ⟨xb,2,none⟩),cI,.agg #[.bool x.1,.string x.2.1,.string x.2.2],b9,cd,aJ,aK,aL,aM,aF],[]⟩:=⟨_,rfl⟩;replace ae:=zh ae;have cr:Hid (G22 xb gb uv Aa Ab i ca cb x w w.drew):=⟨ct.o,cy.o,b6.o⟩
 have Lx5x7x8x12x14x15:∀(l7:Nat)(Aa2:Option Addr)(af:Nat)(aa:Nat)(Ab2:Option Addr)(ak:Nat)(W:World),Hid (G22 xb gb uv Aa Ab i ca cb x w W)->Hid (W.ownsRow B1 39 1 (Value.slice Aa2 (i+1) af) (i+1) (aj++[.slice (some ⟨rb,0,none⟩) m m]))->Hid ((Value.slice Aa2 (i+1) af).ownBlock=(Value.slice Aa i ca).ownBlock\/∃b,(Value.slice Aa2 (i+1) af).ownBlock=some b/\w.heap.size<=b)->Hid (W.ownsRow B1 48 3 (Value.slice Ab2 (i+1) ak) (i+1) (cbs++[.bool x.1,.string x.2.1,.string x.2.2]))->Hid ((Value.slice Ab2 (i+1) ak).ownBlock=(Value.slice Ab i cb).ownBlock\/∃b,(Value.slice Ab2 (i+1) ak).ownBlock=some b/\w.heap.size<=b)->Hid (∀b,(Value.slice Aa2 (i+1) af).ownBlock=some b->(Value.slice Ab2 (i+1) ak).ownBlock≠some b)->F 6 #[true,true,true,true,true,true,true,true,true,true,true,true,true,true,true,true,false,false,false,false,false,false] (fr (.slice Aa i ca) (.slice (some ⟨l7,0,none⟩) 1 1) (.slice Aa2 (i+1) af) (.slice Ab i cb) (.slice (some ⟨aa,0,none⟩) 1 1) (.slice Ab2 (i+1) ak)) W:=by
  intro l7 Aa2 af aa Ab2 ak W hg oa na ob nb ap;rw[hF.o,ae.o];dsimp only;refine tkhE (v:=?_) 16 rfl (Ai hg.o.b) (Or.inl ⟨by rfl,?_⟩) ?_;rotate_left
  . (intro w ai;obtain⟨q1,q2,q3⟩:=ai;go_simp<;>with_reducible rfl)
  try simp only[Act.put,zA,zD,zC]
  refine tkhE (v:=?_) 17 rfl (Ai hg.o.b) (Or.inl ⟨by rfl,?_⟩) ?_;rotate_left
  . (intro w ai;obtain⟨q1,q2,q3⟩:=ai;go_simp<;>with_reducible rfl)
  try simp only[Act.put,zA,zD,zC]
  have x1:=hg.o.y.c1;have f1:=hg.o.y.frozen 1;have x9:=hg.o.y.lt;refine zT (rs:=[18]) (by kernel_rfl) (by simp) ?_;refine zK (o:=_) rfl (fun K hK=>?_) ?_
  .go_simp;have al:Hid (Bk (W.setCell ⟨xb,1,none⟩ (.slice Aa2 (i+1) af)) gb 48 [.bool x.1,.string x.2.1,.string x.2.2]):=hg.o.b.far (p:=⟨xb,1,none⟩) ngx.o _;have ar:Hid (Bk (W.setCell ⟨xb,1,none⟩ (.slice Aa2 (i+1) af)) xb 84 [uv,.slice Aa2 (i+1) af,.slice Ab i cb]):=hg.o.y.set 1 (.slice Aa2 (i+1) af);have ax:Hid (Kp (xb::((Value.slice Aa i ca).ownBlock.toList++(Value.slice Ab i cb).ownBlock.toList)) w (W.setCell ⟨xb,1,none⟩ (.slice Aa2 (i+1) af))):=hg.o.k.set (a:=⟨xb,1,none⟩) _ (.inl (by simp));have nxa2:Hid ((Value.slice Aa2 (i+1) af).ownBlock≠some xb):=fun e=>by rcases na.o with c|⟨b,c,d⟩;(· exact nxa.o (c▸e));(· rw[c]at e;cases e;have:=xl.o;omega)
   have nxb2:Hid ((Value.slice Ab2 (i+1) ak).ownBlock≠some xb):=fun e=>by rcases nb.o with c|⟨b,c,d⟩;(· exact nxb.o (c▸e));(· rw[c]at e;cases e;have:=xl.o;omega)
   have b4:=zh (oa.o.kept (A8 W ⟨xb,1,none⟩ (.slice Aa2 (i+1) af)) (.inr nxa2.o));have aB:=zh (ob.o.kept (A8 W ⟨xb,1,none⟩ (.slice Aa2 (i+1) af)) (.inr nxb2.o));clear x1 f1 x9;refine hK.o _ _ (Ai al.o) (fun _=>?_);clear hK K
   try simp only[zA,zD,zC]
   refine tkhE (v:=?_) 19 rfl (Ai al.o) (Or.inl ⟨by rfl,?_⟩) ?_;rotate_left
   . (intro w ai;obtain⟨q1,q2,q3⟩:=ai;go_simp<;>with_reducible rfl)
   try simp only[Act.put,zA,zD,zC]
   refine tkhE (v:=?_) 20 rfl (Ai al.o) (Or.inl ⟨by rfl,?_⟩) ?_;rotate_left
   . (intro w ai;obtain⟨q1,q2,q3⟩:=ai;go_simp<;>with_reducible rfl)
   try simp only[Act.put,zA,zD,zC]
   have x1:=ar.o.c2;have f1:=ar.o.frozen 2;have x9:=ar.o.lt;refine zT (rs:=[21]) (by kernel_rfl) (by simp) ?_;refine zK (o:=_) rfl (fun K hK=>?_) ?_
   .go_simp;have cq:Hid (Bk ((W.setCell ⟨xb,1,none⟩ (.slice Aa2 (i+1) af)).setCell ⟨xb,2,none⟩ (.slice Ab2 (i+1) ak)) gb 48 [.bool x.1,.string x.2.1,.string x.2.2]):=al.o.far (p:=⟨xb,2,none⟩) ngx.o _;have cz:Hid (Bk ((W.setCell ⟨xb,1,none⟩ (.slice Aa2 (i+1) af)).setCell ⟨xb,2,none⟩ (.slice Ab2 (i+1) ak)) xb 84 [uv,.slice Aa2 (i+1) af,.slice Ab2 (i+1) ak]):=ar.o.set 2 (.slice Ab2 (i+1) ak);have cu:Hid (Kp (xb::((Value.slice Aa i ca).ownBlock.toList++(Value.slice Ab i cb).ownBlock.toList)) w ((W.setCell ⟨xb,1,none⟩ (.slice Aa2 (i+1) af)).setCell ⟨xb,2,none⟩ (.slice Ab2 (i+1) ak))):=ax.o.set (a:=⟨xb,2,none⟩) _ (.inl (by simp));have cC:=zh (b4.o.kept (A8 (W.setCell ⟨xb,1,none⟩ (.slice Aa2 (i+1) af)) ⟨xb,2,none⟩ (.slice Ab2 (i+1) ak)) (.inr nxa2.o));have cE:=zh (aB.o.kept (A8 (W.setCell ⟨xb,1,none⟩ (.slice Aa2 (i+1) af)) ⟨xb,2,none⟩ (.slice Ab2 (i+1) ak)) (.inr nxb2.o));clear x1 f1 x9;refine hK.o _ _ (Ai cq.o) (fun _=>?_);clear hK K
    try simp only[zA,zD,zC]
    refine xJ (by kernel_rfl) ?_ _;refine yx ?_;exact h.o _ _ _ _ _ _ _ _ _ _ _ _ _ _ _ _ _ _ _ _ _ _ _ _ _ cu cz cC cE ap na nb
   exact zR
  exact zR
 have Lx5x7x8x12x14:∀(l7:Nat)(Aa2:Option Addr)(af:Nat)(aa:Nat)(W:World),Hid (G22 xb gb uv Aa Ab i ca cb x w W)->Hid (W.ownsRow B1 39 1 (Value.slice Aa2 (i+1) af) (i+1) (aj++[.slice (some ⟨rb,0,none⟩) m m]))->Hid ((Value.slice Aa2 (i+1) af).ownBlock=(Value.slice Aa i ca).ownBlock\/∃b,(Value.slice Aa2 (i+1) af).ownBlock=some b/\w.heap.size<=b)->Hid (W.ownsRow B1 48 3 (Value.slice Ab i cb) i cbs)->Hid (∀b,(Value.slice Aa2 (i+1) af).ownBlock=some b->(Value.slice Ab i cb).ownBlock≠some b)->Hid ((W.cell? ⟨aa,0,none⟩=some (.bool x.1)/\W.cell? ⟨aa,1,none⟩=some (.string x.2.1)/\W.cell? ⟨aa,2,none⟩=some (.string x.2.2))/\w.heap.size<=aa/\aa<W.heap.size)->F 7 #[true,true,true,true,true,true,true,true,true,true,true,true,true,true,true,false,false,false,false,false,false,false] (fr (.slice Aa i ca) (.slice (some ⟨l7,0,none⟩) 1 1) (.slice Aa2 (i+1) af) (.slice Ab i cb) (.slice (some ⟨aa,0,none⟩) 1 1) ag) W:=by
  intro l7 Aa2 af aa W hg oa na ob ap ad;rw[hF.o,ae.o];dsimp only;refine zT (rs:=[15]) (by kernel_rfl) (by simp) ?_;refine zK (o:=_) rfl (fun K hK=>?_) ?_
  .rw[zF (by rfl)];refine Nt.AH _ _ _ 39 rfl B1 48 i3 (.agg #[.bool false,.string ⟨#[]⟩,.string ⟨#[]⟩]) 3 40 underlying39 b3.o z0i3.o z1i3.o z2i3.o rfl (by decide) (.slice Ab i cb) i cbs rfl ob.o ⟨aa,0,none⟩ 1 1 [.bool x.1,.string x.2.1,.string x.2.2] rfl rfl (T3 ad.o.1.1 ad.o.1.2.1 ad.o.1.2.2) (fun u hu=>LK x u hu) (by omega) (by unfold maxLen;omega) (by omega) (zQ aC.o hg.o.k.size) ?_;intro vx wx aq ah ao;obtain⟨A9,c9,rfl⟩:=Ej aq;have al:=zh (hg.o.b.grown ah (fun e=>ngb.o e.symm));have ar:=zh (hg.o.y.grown ah (fun e=>nxb.o e.symm));have ax:=zh (IC hg.o.k ah cx.o);have b4:=zh (oa.o.kept ah (by cases e:(Value.slice Aa2 (i+1) af).ownBlock with|none=>exact .inl rfl|some b=>exact .inr (fun e2=>ap.o b e e2.symm)));have cA:Hid ((Value.slice A9 (i+1) c9).ownBlock=(Value.slice Ab i cb).ownBlock\/∃b,(Value.slice A9 (i+1) c9).ownBlock=some b/\w.heap.size<=b):=ao.imp id fun e=>⟨_,e,hg.o.k.size⟩;have aA:Hid (∀b,(Value.slice Aa2 (i+1) af).ownBlock=some b->(Value.slice A9 (i+1) c9).ownBlock≠some b):=fun b e e2=>by rcases ao with c|c;(· exact ap.o b e (c▸e2));(· rw[c]at e2;cases e2;have:=(oa.o.lt _ e).2;omega)
   refine hK.o _ _ (Ai al.o) (fun _=>?_);clear hK K
   try simp only[Act.put,zA,zD,zC]
   rw[<-hF.o];have hl:=Lx5x7x8x12x14x15 l7 Aa2 af aa A9 c9 wx (zh ⟨ax.o,ar.o,al.o⟩) b4 na (zh aq) cA aA;rw[ae.o]at hl;exact hl
  exact zR
 have Lx5x7x12x14:∀(l7:Nat)(aa:Nat)(W:World),Hid (G22 xb gb uv Aa Ab i ca cb x w W)->Hid (W.ownsRow B1 39 1 (Value.slice Aa i ca) i aj)->Hid (W.ownsRow B1 48 3 (Value.slice Ab i cb) i cbs)->Hid (∀b,(Value.slice Aa i ca).ownBlock=some b->(Value.slice Ab i cb).ownBlock≠some b)->Hid (W.cell? ⟨l7,0,none⟩=some (.slice (some ⟨rb,0,none⟩) m m)/\w.heap.size<=l7/\l7<W.heap.size)->Hid ((W.cell? ⟨aa,0,none⟩=some (.bool x.1)/\W.cell? ⟨aa,1,none⟩=some (.string x.2.1)/\W.cell? ⟨aa,2,none⟩=some (.string x.2.2))/\w.heap.size<=aa/\aa<W.heap.size)->F 8 #[true,true,true,true,true,true,true,true,false,true,true,true,true,true,true,false,false,false,false,false,false,false] (fr (.slice Aa i ca) (.slice (some ⟨l7,0,none⟩) 1 1) an (.slice Ab i cb) (.slice (some ⟨aa,0,none⟩) 1 1) ag) W:=by
  intro l7 aa W hg oa ob ap c7 ad;rw[hF.o,ae.o];dsimp only;refine zT (rs:=[8]) (by kernel_rfl) (by simp) ?_;refine zK (o:=_) rfl (fun K hK=>?_) ?_
  .rw [zF (by rfl)];refine Nt.AH _ _ _ 82 rfl B1 39 i0 (.slice none 0 0) 1 24 underlying82 aE.o z0i0.o z1i0.o z2i0.o rfl (by decide) (.slice Aa i ca) i aj rfl oa.o ⟨l7,0,none⟩ 1 1 [.slice (some ⟨rb,0,none⟩) m m] rfl rfl (KO c7.o.1) (Ci.AQ _ rfl) (by omega) (by unfold maxLen;omega) (by omega) (zQ aC.o hg.o.k.size) ?_;intro vx wx aq ah ao;obtain⟨A9,c9,rfl⟩:=Ej aq;have al:=zh (hg.o.b.grown ah (fun e=>nga.o e.symm));have ar:=zh (hg.o.y.grown ah (fun e=>nxa.o e.symm));have ax:=zh (IC hg.o.k ah aI.o);have aB:=zh (ob.o.kept ah (by cases e:(Value.slice Ab i cb).ownBlock with|none=>exact .inl rfl|some b=>exact .inr (fun e2=>ap.o b e2.symm e)));have aD:Hid ((Value.slice A9 (i+1) c9).ownBlock=(Value.slice Aa i ca).ownBlock\/∃b,(Value.slice A9 (i+1) c9).ownBlock=some b/\w.heap.size<=b):=ao.imp id fun e=>⟨_,e,hg.o.k.size⟩;have aA:Hid (∀b,(Value.slice A9 (i+1) c9).ownBlock=some b->(Value.slice Ab i cb).ownBlock≠some b):=fun b e e2=>by rcases ao with c|c;(· exact ap.o b (c▸e) e2);(· rw[c]at e;cases e;have:=(ob.o.lt _ e2).2;omega)
   have aG:Hid (((wx.cell? ⟨aa,0,none⟩=some (.bool x.1)/\wx.cell? ⟨aa,1,none⟩=some (.string x.2.1)/\wx.cell? ⟨aa,2,none⟩=some (.string x.2.2))/\w.heap.size<=aa/\aa<wx.heap.size)):=by
    have aw:=ah.block aa ad.o.2.2 (fun e=>by have:=(b7.o _ e.symm).2;have:=ad.o.2.1;omega);exact⟨⟨(zU (a:=⟨aa,0,none⟩) aw).trans ad.o.1.1,(zU (a:=⟨aa,1,none⟩) aw).trans ad.o.1.2.1,(zU (a:=⟨aa,2,none⟩) aw).trans ad.o.1.2.2⟩,ad.o.2.1,zJ ad.o.2.2 ah.size⟩
   refine hK.o _ _ (Ai al.o) (fun _=>?_);clear hK K
   try simp only[Act.put,zA,zD,zC]
   rw[<-hF.o];have hl:=Lx5x7x8x12x14 l7 A9 c9 aa wx (zh ⟨ax.o,ar.o,al.o⟩) (zh aq) aD aB aA aG;rw[ae.o]at hl;exact hl
  exact zR
 have Lx5x7x8x12:∀(l7:Nat)(Aa2:Option Addr)(af:Nat)(W:World),Hid (G22 xb gb uv Aa Ab i ca cb x w W)->Hid (W.ownsRow B1 39 1 (Value.slice Aa2 (i+1) af) (i+1) (aj++[.slice (some ⟨rb,0,none⟩) m m]))->Hid ((Value.slice Aa2 (i+1) af).ownBlock=(Value.slice Aa i ca).ownBlock\/∃b,(Value.slice Aa2 (i+1) af).ownBlock=some b/\w.heap.size<=b)->Hid (W.ownsRow B1 48 3 (Value.slice Ab i cb) i cbs)->Hid (∀b,(Value.slice Aa2 (i+1) af).ownBlock=some b->(Value.slice Ab i cb).ownBlock≠some b)->F 8 #[true,true,true,true,true,true,true,true,true,true,true,true,true,true,false,false,false,false,false,false,false,false] (fr (.slice Aa i ca) (.slice (some ⟨l7,0,none⟩) 1 1) (.slice Aa2 (i+1) af) (.slice Ab i cb) am ag) W:=by
  intro l7 Aa2 af W hg oa na ob ap;rw[hF.o,ae.o];dsimp only;refine zT (rs:=[14]) (by kernel_rfl) (by simp) ?_;refine zK (o:=_) rfl (fun K hK=>?_) ?_
  .go_simp;refine hK.o _ _ (Ai (hg.o.b.alloc _)) (fun _=>?_);clear hK K
   try simp only[zA,zD,zC]
   rw[<-hF.o];have hl:=Lx5x7x8x12x14 l7 Aa2 af W.heap.size (W.alloc (.cells #[.bool x.1,.string x.2.1,.string x.2.2] 48)) (zh ((hg.o.alloc _))) (zh ((oa.o.alloc _))) (zh (na.o)) (zh ((ob.o.alloc _))) (zh (ap.o)) (zh (⟨⟨(Bk.new W 48 [.bool x.1,.string x.2.1,.string x.2.2]).c0,(Bk.new W 48 [.bool x.1,.string x.2.1,.string x.2.2]).c1,(Bk.new W 48 [.bool x.1,.string x.2.1,.string x.2.2]).c2⟩,hg.o.k.size,by rw[zV];exact zw _⟩));rw[ae.o]at hl;exact hl
  exact zR
 have Lx5x7x12:∀(l7:Nat)(W:World),Hid (G22 xb gb uv Aa Ab i ca cb x w W)->Hid (W.ownsRow B1 39 1 (Value.slice Aa i ca) i aj)->Hid (W.ownsRow B1 48 3 (Value.slice Ab i cb) i cbs)->Hid (∀b,(Value.slice Aa i ca).ownBlock=some b->(Value.slice Ab i cb).ownBlock≠some b)->Hid (W.cell? ⟨l7,0,none⟩=some (.slice (some ⟨rb,0,none⟩) m m)/\w.heap.size<=l7/\l7<W.heap.size)->F 9 #[true,true,true,true,true,true,true,true,false,true,true,true,true,true,false,false,false,false,false,false,false,false] (fr (.slice Aa i ca) (.slice (some ⟨l7,0,none⟩) 1 1) an (.slice Ab i cb) am ag) W:=by
  intro l7 W hg oa ob ap c7;rw[hF.o,ae.o];dsimp only;refine zT (rs:=[8,14]) (by kernel_rfl) (by simp) ?_;refine zK (o:=_) rfl (fun K hK=>?_) ?_
  .rw[zF (by rfl)];refine Nt.AH _ _ _ 82 rfl B1 39 i0 (.slice none 0 0) 1 24 underlying82 aE.o z0i0.o z1i0.o z2i0.o rfl (by decide) (.slice Aa i ca) i aj rfl oa.o ⟨l7,0,none⟩ 1 1 [.slice (some ⟨rb,0,none⟩) m m] rfl rfl (KO c7.o.1) (Ci.AQ _ rfl) (by omega) (by unfold maxLen;omega) (by omega) (zQ aC.o hg.o.k.size) ?_;intro vx wx aq ah ao;obtain⟨A9,c9,rfl⟩:=Ej aq;have al:=zh (hg.o.b.grown ah (fun e=>nga.o e.symm));have ar:=zh (hg.o.y.grown ah (fun e=>nxa.o e.symm));have ax:=zh (IC hg.o.k ah aI.o);have aB:=zh (ob.o.kept ah (by cases e:(Value.slice Ab i cb).ownBlock with|none=>exact .inl rfl|some b=>exact .inr (fun e2=>ap.o b e2.symm e)));have aD:Hid ((Value.slice A9 (i+1) c9).ownBlock=(Value.slice Aa i ca).ownBlock\/∃b,(Value.slice A9 (i+1) c9).ownBlock=some b/\w.heap.size<=b):=ao.imp id fun e=>⟨_,e,hg.o.k.size⟩;have aA:Hid (∀b,(Value.slice A9 (i+1) c9).ownBlock=some b->(Value.slice Ab i cb).ownBlock≠some b):=fun b e e2=>by rcases ao with c|c;(· exact ap.o b (c▸e) e2);(· rw[c]at e;cases e;have:=(ob.o.lt _ e2).2;omega)
   refine hK.o _ _ (Ai al.o) (fun _=>?_);clear hK K
   try simp only[Act.put,zA,zD,zC]
   rw[<-hF.o];have hl:=Lx5x7x8x12 l7 A9 c9 wx (zh ⟨ax.o,ar.o,al.o⟩) (zh aq) aD aB aA;rw[ae.o]at hl;exact hl
  refine zK (o:=_) rfl (fun K hK=>?_) ?_
  .go_simp;refine hK.o _ _ (Ai (hg.o.b.alloc _)) (fun _=>?_);clear hK K
   try simp only[zA,zD,zC]
   rw[<-hF.o];have hl:=Lx5x7x12x14 l7 W.heap.size (W.alloc (.cells #[.bool x.1,.string x.2.1,.string x.2.2] 48)) (zh ((hg.o.alloc _))) (zh ((oa.o.alloc _))) (zh ((ob.o.alloc _))) (zh (ap.o)) (zh (⟨(yK _ _ _ c7.o.2.2).trans c7.o.1,c7.o.2.1,by rw[zV];exact xt c7.o.2.2⟩)) (zh (⟨⟨(Bk.new W 48 [.bool x.1,.string x.2.1,.string x.2.2]).c0,(Bk.new W 48 [.bool x.1,.string x.2.1,.string x.2.2]).c1,(Bk.new W 48 [.bool x.1,.string x.2.1,.string x.2.2]).c2⟩,hg.o.k.size,by rw[zV];exact zw _⟩));rw[ae.o]at hl;exact hl
  exact zR
 have Lx5x7x8x14:∀(l7:Nat)(Aa2:Option Addr)(af:Nat)(aa:Nat)(W:World),Hid (G22 xb gb uv Aa Ab i ca cb x w W)->Hid (W.ownsRow B1 39 1 (Value.slice Aa2 (i+1) af) (i+1) (aj++[.slice (some ⟨rb,0,none⟩) m m]))->Hid ((Value.slice Aa2 (i+1) af).ownBlock=(Value.slice Aa i ca).ownBlock\/∃b,(Value.slice Aa2 (i+1) af).ownBlock=some b/\w.heap.size<=b)->Hid (W.ownsRow B1 48 3 (Value.slice Ab i cb) i cbs)->Hid (∀b,(Value.slice Aa2 (i+1) af).ownBlock=some b->(Value.slice Ab i cb).ownBlock≠some b)->Hid ((W.cell? ⟨aa,0,none⟩=some (.bool x.1)/\W.cell? ⟨aa,1,none⟩=some (.string x.2.1)/\W.cell? ⟨aa,2,none⟩=some (.string x.2.2))/\w.heap.size<=aa/\aa<W.heap.size)->F 8 #[true,true,true,true,true,true,true,true,true,true,true,true,false,true,true,false,false,false,false,false,false,false] (fr (.slice Aa i ca) (.slice (some ⟨l7,0,none⟩) 1 1) (.slice Aa2 (i+1) af) av (.slice (some ⟨aa,0,none⟩) 1 1) ag) W:=by
  intro l7 Aa2 af aa W hg oa na ob ap ad;rw[hF.o,ae.o];dsimp only;refine zT (rs:=[12]) (by kernel_rfl) (by simp) ?_;have x1:=hg.o.y.c2;have x9:=hg.o.y.lt;refine zK (o:=_) rfl (fun K hK=>?_) ?_
  .go_simp;clear x1 x9;refine hK.o _ _ (Ai hg.o.b) (fun _=>?_);clear hK K
   try simp only[zA,zD,zC]
   rw[<-hF.o];have hl:=Lx5x7x8x12x14 l7 Aa2 af aa W hg oa na ob ap ad;rw[ae.o]at hl;exact hl
  clear x1 x9;exact zR
 have Lx5x7x14:∀(l7:Nat)(aa:Nat)(W:World),Hid (G22 xb gb uv Aa Ab i ca cb x w W)->Hid (W.ownsRow B1 39 1 (Value.slice Aa i ca) i aj)->Hid (W.ownsRow B1 48 3 (Value.slice Ab i cb) i cbs)->Hid (∀b,(Value.slice Aa i ca).ownBlock=some b->(Value.slice Ab i cb).ownBlock≠some b)->Hid (W.cell? ⟨l7,0,none⟩=some (.slice (some ⟨rb,0,none⟩) m m)/\w.heap.size<=l7/\l7<W.heap.size)->Hid ((W.cell? ⟨aa,0,none⟩=some (.bool x.1)/\W.cell? ⟨aa,1,none⟩=some (.string x.2.1)/\W.cell? ⟨aa,2,none⟩=some (.string x.2.2))/\w.heap.size<=aa/\aa<W.heap.size)->F 9 #[true,true,true,true,true,true,true,true,false,true,true,true,false,true,true,false,false,false,false,false,false,false] (fr (.slice Aa i ca) (.slice (some ⟨l7,0,none⟩) 1 1) an av (.slice (some ⟨aa,0,none⟩) 1 1) ag) W:=by
  intro l7 aa W hg oa ob ap c7 ad;rw[hF.o,ae.o];dsimp only;refine zT (rs:=[8,12]) (by kernel_rfl) (by simp) ?_;refine zK (o:=_) rfl (fun K hK=>?_) ?_
  .rw [zF (by rfl)];refine Nt.AH _ _ _ 82 rfl B1 39 i0 (.slice none 0 0) 1 24 underlying82 aE.o z0i0.o z1i0.o z2i0.o rfl (by decide) (.slice Aa i ca) i aj rfl oa.o ⟨l7,0,none⟩ 1 1 [.slice (some ⟨rb,0,none⟩) m m] rfl rfl (KO c7.o.1) (Ci.AQ _ rfl) (by omega) (by unfold maxLen;omega) (by omega) (zQ aC.o hg.o.k.size) ?_;intro vx wx aq ah ao;obtain⟨A9,c9,rfl⟩:=Ej aq;have al:=zh (hg.o.b.grown ah (fun e=>nga.o e.symm));have ar:=zh (hg.o.y.grown ah (fun e=>nxa.o e.symm));have ax:=zh (IC hg.o.k ah aI.o);have aB:=zh (ob.o.kept ah (by cases e:(Value.slice Ab i cb).ownBlock with|none=>exact .inl rfl|some b=>exact .inr (fun e2=>ap.o b e2.symm e)));have aD:Hid ((Value.slice A9 (i+1) c9).ownBlock=(Value.slice Aa i ca).ownBlock\/∃b,(Value.slice A9 (i+1) c9).ownBlock=some b/\w.heap.size<=b):=ao.imp id fun e=>⟨_,e,hg.o.k.size⟩;have aA:Hid (∀b,(Value.slice A9 (i+1) c9).ownBlock=some b->(Value.slice Ab i cb).ownBlock≠some b):=fun b e e2=>by rcases ao with c|c;(· exact ap.o b (c▸e) e2);(· rw[c]at e;cases e;have:=(ob.o.lt _ e2).2;omega)
   have aG:Hid (((wx.cell? ⟨aa,0,none⟩=some (.bool x.1)/\wx.cell? ⟨aa,1,none⟩=some (.string x.2.1)/\wx.cell? ⟨aa,2,none⟩=some (.string x.2.2))/\w.heap.size<=aa/\aa<wx.heap.size)):=by
    have aw:=ah.block aa ad.o.2.2 (fun e=>by have:=(b7.o _ e.symm).2;have:=ad.o.2.1;omega);exact⟨⟨(zU (a:=⟨aa,0,none⟩) aw).trans ad.o.1.1,(zU (a:=⟨aa,1,none⟩) aw).trans ad.o.1.2.1,(zU (a:=⟨aa,2,none⟩) aw).trans ad.o.1.2.2⟩,ad.o.2.1,zJ ad.o.2.2 ah.size⟩
   refine hK.o _ _ (Ai al.o) (fun _=>?_);clear hK K
   try simp only[Act.put,zA,zD,zC]
   rw[<-hF.o];have hl:=Lx5x7x8x14 l7 A9 c9 aa wx (zh ⟨ax.o,ar.o,al.o⟩) (zh aq) aD aB aA aG;rw[ae.o]at hl;exact hl
  have x1:=hg.o.y.c2;have x9:=hg.o.y.lt;refine zK (o:=_) rfl (fun K hK=>?_) ?_
  .go_simp;clear x1 x9;refine hK.o _ _ (Ai hg.o.b) (fun _=>?_);clear hK K
   try simp only[zA,zD,zC]
   rw[<-hF.o];have hl:=Lx5x7x12x14 l7 aa W hg oa ob ap c7 ad;rw[ae.o]at hl;exact hl
  clear x1 x9;exact zR
 have Lx5x7x8:∀(l7:Nat)(Aa2:Option Addr)(af:Nat)(W:World),Hid (G22 xb gb uv Aa Ab i ca cb x w W)->Hid (W.ownsRow B1 39 1 (Value.slice Aa2 (i+1) af) (i+1) (aj++[.slice (some ⟨rb,0,none⟩) m m]))->Hid ((Value.slice Aa2 (i+1) af).ownBlock=(Value.slice Aa i ca).ownBlock\/∃b,(Value.slice Aa2 (i+1) af).ownBlock=some b/\w.heap.size<=b)->Hid (W.ownsRow B1 48 3 (Value.slice Ab i cb) i cbs)->Hid (∀b,(Value.slice Aa2 (i+1) af).ownBlock=some b->(Value.slice Ab i cb).ownBlock≠some b)->F 9 #[true,true,true,true,true,true,true,true,true,true,true,true,false,true,false,false,false,false,false,false,false,false] (fr (.slice Aa i ca) (.slice (some ⟨l7,0,none⟩) 1 1) (.slice Aa2 (i+1) af) av am ag) W:=by
  intro l7 Aa2 af W hg oa na ob ap;rw[hF.o,ae.o];dsimp only;refine zT (rs:=[12,14]) (by kernel_rfl) (by simp) ?_;have x1:=hg.o.y.c2;have x9:=hg.o.y.lt;refine zK (o:=_) rfl (fun K hK=>?_) ?_
  .go_simp;clear x1 x9;refine hK.o _ _ (Ai hg.o.b) (fun _=>?_);clear hK K
   try simp only[zA,zD,zC]
   rw[<-hF.o];have hl:=Lx5x7x8x12 l7 Aa2 af W hg oa na ob ap;rw[ae.o]at hl;exact hl
  clear x1 x9;refine zK (o:=_) rfl (fun K hK=>?_) ?_
  .go_simp;refine hK.o _ _ (Ai (hg.o.b.alloc _)) (fun _=>?_);clear hK K
   try simp only[zA,zD,zC]
   rw[<-hF.o];have hl:=Lx5x7x8x14 l7 Aa2 af W.heap.size (W.alloc (.cells #[.bool x.1,.string x.2.1,.string x.2.2] 48)) (zh ((hg.o.alloc _))) (zh ((oa.o.alloc _))) (zh (na.o)) (zh ((ob.o.alloc _))) (zh (ap.o)) (zh (⟨⟨(Bk.new W 48 [.bool x.1,.string x.2.1,.string x.2.2]).c0,(Bk.new W 48 [.bool x.1,.string x.2.1,.string x.2.2]).c1,(Bk.new W 48 [.bool x.1,.string x.2.1,.string x.2.2]).c2⟩,hg.o.k.size,by rw[zV];exact zw _⟩));rw[ae.o]at hl;exact hl
  exact zR
 have Lx5x7:∀(l7:Nat)(W:World),Hid (G22 xb gb uv Aa Ab i ca cb x w W)->Hid (W.ownsRow B1 39 1 (Value.slice Aa i ca) i aj)->Hid (W.ownsRow B1 48 3 (Value.slice Ab i cb) i cbs)->Hid (∀b,(Value.slice Aa i ca).ownBlock=some b->(Value.slice Ab i cb).ownBlock≠some b)->Hid (W.cell? ⟨l7,0,none⟩=some (.slice (some ⟨rb,0,none⟩) m m)/\w.heap.size<=l7/\l7<W.heap.size)->F 10 #[true,true,true,true,true,true,true,true,false,true,true,true,false,true,false,false,false,false,false,false,false,false] (fr (.slice Aa i ca) (.slice (some ⟨l7,0,none⟩) 1 1) an av am ag) W:=by
  intro l7 W hg oa ob ap c7;rw[hF.o,ae.o];dsimp only;refine zT (rs:=[8,12,14]) (by kernel_rfl) (by simp) ?_;refine zK (o:=_) rfl (fun K hK=>?_) ?_
  .rw[zF (by rfl)];refine Nt.AH _ _ _ 82 rfl B1 39 i0 (.slice none 0 0) 1 24 underlying82 aE.o z0i0.o z1i0.o z2i0.o rfl (by decide) (.slice Aa i ca) i aj rfl oa.o ⟨l7,0,none⟩ 1 1 [.slice (some ⟨rb,0,none⟩) m m] rfl rfl (KO c7.o.1) (Ci.AQ _ rfl) (by omega) (by unfold maxLen;omega) (by omega) (zQ aC.o hg.o.k.size) ?_;intro vx wx aq ah ao;obtain⟨A9,c9,rfl⟩:=Ej aq;have al:=zh (hg.o.b.grown ah (fun e=>nga.o e.symm));have ar:=zh (hg.o.y.grown ah (fun e=>nxa.o e.symm));have ax:=zh (IC hg.o.k ah aI.o);have aB:=zh (ob.o.kept ah (by cases e:(Value.slice Ab i cb).ownBlock with|none=>exact .inl rfl|some b=>exact .inr (fun e2=>ap.o b e2.symm e)));have aD:Hid ((Value.slice A9 (i+1) c9).ownBlock=(Value.slice Aa i ca).ownBlock\/∃b,(Value.slice A9 (i+1) c9).ownBlock=some b/\w.heap.size<=b):=ao.imp id fun e=>⟨_,e,hg.o.k.size⟩;have aA:Hid (∀b,(Value.slice A9 (i+1) c9).ownBlock=some b->(Value.slice Ab i cb).ownBlock≠some b):=fun b e e2=>by rcases ao with c|c;(· exact ap.o b (c▸e) e2);(· rw[c]at e;cases e;have:=(ob.o.lt _ e2).2;omega)
   refine hK.o _ _ (Ai al.o) (fun _=>?_);clear hK K
   try simp only[Act.put,zA,zD,zC]
   rw[<-hF.o];have hl:=Lx5x7x8 l7 A9 c9 wx (zh ⟨ax.o,ar.o,al.o⟩) (zh aq) aD aB aA;rw[ae.o]at hl;exact hl
  have x1:=hg.o.y.c2;have x9:=hg.o.y.lt;refine zK (o:=_) rfl (fun K hK=>?_) ?_
  .go_simp;clear x1 x9;refine hK.o _ _ (Ai hg.o.b) (fun _=>?_);clear hK K
   try simp only[zA,zD,zC]
   rw[<-hF.o];have hl:=Lx5x7x12 l7 W hg oa ob ap c7;rw[ae.o]at hl;exact hl
  clear x1 x9;refine zK (o:=_) rfl (fun K hK=>?_) ?_
  .go_simp;refine hK.o _ _ (Ai (hg.o.b.alloc _)) (fun _=>?_);clear hK K
   try simp only[zA,zD,zC]
   rw[<-hF.o];have hl:=Lx5x7x14 l7 W.heap.size (W.alloc (.cells #[.bool x.1,.string x.2.1,.string x.2.2] 48)) (zh ((hg.o.alloc _))) (zh ((oa.o.alloc _))) (zh ((ob.o.alloc _))) (zh (ap.o)) (zh (⟨(yK _ _ _ c7.o.2.2).trans c7.o.1,c7.o.2.1,by rw[zV];exact xt c7.o.2.2⟩)) (zh (⟨⟨(Bk.new W 48 [.bool x.1,.string x.2.1,.string x.2.2]).c0,(Bk.new W 48 [.bool x.1,.string x.2.1,.string x.2.2]).c1,(Bk.new W 48 [.bool x.1,.string x.2.1,.string x.2.2]).c2⟩,hg.o.k.size,by rw[zV];exact zw _⟩));rw[ae.o]at hl;exact hl
  exact zR
 have Lx5x12x14:∀(aa:Nat)(W:World),Hid (G22 xb gb uv Aa Ab i ca cb x w W)->Hid (W.ownsRow B1 39 1 (Value.slice Aa i ca) i aj)->Hid (W.ownsRow B1 48 3 (Value.slice Ab i cb) i cbs)->Hid (∀b,(Value.slice Aa i ca).ownBlock=some b->(Value.slice Ab i cb).ownBlock≠some b)->Hid ((W.cell? ⟨aa,0,none⟩=some (.bool x.1)/\W.cell? ⟨aa,1,none⟩=some (.string x.2.1)/\W.cell? ⟨aa,2,none⟩=some (.string x.2.2))/\w.heap.size<=aa/\aa<W.heap.size)->F 9 #[true,true,true,true,true,true,true,false,false,true,true,true,true,true,true,false,false,false,false,false,false,false] (fr (.slice Aa i ca) az an (.slice Ab i cb) (.slice (some ⟨aa,0,none⟩) 1 1) ag) W:=by
  intro aa W hg oa ob ap ad;rw[hF.o,ae.o];dsimp only;refine zT (rs:=[7]) (by kernel_rfl) (by simp) ?_;refine zK (o:=_) rfl (fun K hK=>?_) ?_
  .go_simp;refine hK.o _ _ (Ai (hg.o.b.alloc _)) (fun _=>?_);clear hK K
   try simp only[zA,zD,zC]
   rw[<-hF.o];have hl:=Lx5x7x12x14 W.heap.size aa (W.alloc (.cells #[.slice (some ⟨rb,0,none⟩) m m] 39)) (zh ((hg.o.alloc _))) (zh ((oa.o.alloc _))) (zh ((ob.o.alloc _))) (zh (ap.o)) (zh (⟨(Bk.new W 39 [.slice (some ⟨rb,0,none⟩) m m]).c0,hg.o.k.size,by rw[zV];exact zw _⟩)) (zh (⟨⟨(yK _ _ _ ad.o.2.2).trans ad.o.1.1,(yK _ _ _ ad.o.2.2).trans ad.o.1.2.1,(yK _ _ _ ad.o.2.2).trans ad.o.1.2.2⟩,ad.o.2.1,by rw[zV];exact xt ad.o.2.2⟩));rw[ae.o]at hl;exact hl
  exact zR
 have Lx5x12:∀(W:World),Hid (G22 xb gb uv Aa Ab i ca cb x w W)->Hid (W.ownsRow B1 39 1 (Value.slice Aa i ca) i aj)->Hid (W.ownsRow B1 48 3 (Value.slice Ab i cb) i cbs)->Hid (∀b,(Value.slice Aa i ca).ownBlock=some b->(Value.slice Ab i cb).ownBlock≠some b)->F 10 #[true,true,true,true,true,true,true,false,false,true,true,true,true,true,false,false,false,false,false,false,false,false] (fr (.slice Aa i ca) az an (.slice Ab i cb) am ag) W:=by
  intro  W hg oa ob ap;rw[hF.o,ae.o];dsimp only;refine zT (rs:=[7,14]) (by kernel_rfl) (by simp) ?_;refine zK (o:=_) rfl (fun K hK=>?_) ?_
  .go_simp;refine hK.o _ _ (Ai (hg.o.b.alloc _)) (fun _=>?_);clear hK K
   try simp only[zA,zD,zC]
   rw[<-hF.o];have hl:=Lx5x7x12 W.heap.size (W.alloc (.cells #[.slice (some ⟨rb,0,none⟩) m m] 39)) (zh ((hg.o.alloc _))) (zh ((oa.o.alloc _))) (zh ((ob.o.alloc _))) (zh (ap.o)) (zh (⟨(Bk.new W 39 [.slice (some ⟨rb,0,none⟩) m m]).c0,hg.o.k.size,by rw[zV];exact zw _⟩));rw[ae.o]at hl;exact hl
  refine zK (o:=_) rfl (fun K hK=>?_) ?_
  .go_simp;refine hK.o _ _ (Ai (hg.o.b.alloc _)) (fun _=>?_);clear hK K
   try simp only[zA,zD,zC]
   rw[<-hF.o];have hl:=Lx5x12x14 W.heap.size (W.alloc (.cells #[.bool x.1,.string x.2.1,.string x.2.2] 48)) (zh ((hg.o.alloc _))) (zh ((oa.o.alloc _))) (zh ((ob.o.alloc _))) (zh (ap.o)) (zh (⟨⟨(Bk.new W 48 [.bool x.1,.string x.2.1,.string x.2.2]).c0,(Bk.new W 48 [.bool x.1,.string x.2.1,.string x.2.2]).c1,(Bk.new W 48 [.bool x.1,.string x.2.1,.string x.2.2]).c2⟩,hg.o.k.size,by rw[zV];exact zw _⟩));rw[ae.o]at hl;exact hl
  exact zR
 have Lx5x14:∀(aa:Nat)(W:World),Hid (G22 xb gb uv Aa Ab i ca cb x w W)->Hid (W.ownsRow B1 39 1 (Value.slice Aa i ca) i aj)->Hid (W.ownsRow B1 48 3 (Value.slice Ab i cb) i cbs)->Hid (∀b,(Value.slice Aa i ca).ownBlock=some b->(Value.slice Ab i cb).ownBlock≠some b)->Hid ((W.cell? ⟨aa,0,none⟩=some (.bool x.1)/\W.cell? ⟨aa,1,none⟩=some (.string x.2.1)/\W.cell? ⟨aa,2,none⟩=some (.string x.2.2))/\w.heap.size<=aa/\aa<W.heap.size)->F 10 #[true,true,true,true,true,true,true,false,false,true,true,true,false,true,true,false,false,false,false,false,false,false] (fr (.slice Aa i ca) az an av (.slice (some ⟨aa,0,none⟩) 1 1) ag) W:=by
  intro aa W hg oa ob ap ad;rw[hF.o,ae.o];dsimp only;refine zT (rs:=[7,12]) (by kernel_rfl) (by simp) ?_;refine zK (o:=_) rfl (fun K hK=>?_) ?_
  .go_simp;refine hK.o _ _ (Ai (hg.o.b.alloc _)) (fun _=>?_);clear hK K
   try simp only[zA,zD,zC]
   rw[<-hF.o];have hl:=Lx5x7x14 W.heap.size aa (W.alloc (.cells #[.slice (some ⟨rb,0,none⟩) m m] 39)) (zh ((hg.o.alloc _))) (zh ((oa.o.alloc _))) (zh ((ob.o.alloc _))) (zh (ap.o)) (zh (⟨(Bk.new W 39 [.slice (some ⟨rb,0,none⟩) m m]).c0,hg.o.k.size,by rw[zV];exact zw _⟩)) (zh (⟨⟨(yK _ _ _ ad.o.2.2).trans ad.o.1.1,(yK _ _ _ ad.o.2.2).trans ad.o.1.2.1,(yK _ _ _ ad.o.2.2).trans ad.o.1.2.2⟩,ad.o.2.1,by rw[zV];exact xt ad.o.2.2⟩));rw[ae.o]at hl;exact hl
  have x1:=hg.o.y.c2;have x9:=hg.o.y.lt;refine zK (o:=_) rfl (fun K hK=>?_) ?_
  .go_simp;clear x1 x9;refine hK.o _ _ (Ai hg.o.b) (fun _=>?_);clear hK K
   try simp only[zA,zD,zC]
   rw[<-hF.o];have hl:=Lx5x12x14 aa W hg oa ob ap ad;rw[ae.o]at hl;exact hl
  clear x1 x9;exact zR
 have Lx5:∀(W:World),Hid (G22 xb gb uv Aa Ab i ca cb x w W)->Hid (W.ownsRow B1 39 1 (Value.slice Aa i ca) i aj)->Hid (W.ownsRow B1 48 3 (Value.slice Ab i cb) i cbs)->Hid (∀b,(Value.slice Aa i ca).ownBlock=some b->(Value.slice Ab i cb).ownBlock≠some b)->F 11 #[true,true,true,true,true,true,true,false,false,true,true,true,false,true,false,false,false,false,false,false,false,false] (fr (.slice Aa i ca) az an av am ag) W:=by
  intro  W hg oa ob ap;rw[hF.o,ae.o];dsimp only;refine zT (rs:=[7,12,14]) (by kernel_rfl) (by simp) ?_;refine zK (o:=_) rfl (fun K hK=>?_) ?_
  .go_simp;refine hK.o _ _ (Ai (hg.o.b.alloc _)) (fun _=>?_);clear hK K
   try simp only[zA,zD,zC]
   rw[<-hF.o];have hl:=Lx5x7 W.heap.size (W.alloc (.cells #[.slice (some ⟨rb,0,none⟩) m m] 39)) (zh ((hg.o.alloc _))) (zh ((oa.o.alloc _))) (zh ((ob.o.alloc _))) (zh (ap.o)) (zh (⟨(Bk.new W 39 [.slice (some ⟨rb,0,none⟩) m m]).c0,hg.o.k.size,by rw[zV];exact zw _⟩));rw[ae.o]at hl;exact hl
  have x1:=hg.o.y.c2;have x9:=hg.o.y.lt;refine zK (o:=_) rfl (fun K hK=>?_) ?_
  .go_simp;clear x1 x9;refine hK.o _ _ (Ai hg.o.b) (fun _=>?_);clear hK K
   try simp only[zA,zD,zC]
   rw[<-hF.o];have hl:=Lx5x12  W hg oa ob ap;rw[ae.o]at hl;exact hl
  clear x1 x9;refine zK (o:=_) rfl (fun K hK=>?_) ?_
  .go_simp;refine hK.o _ _ (Ai (hg.o.b.alloc _)) (fun _=>?_);clear hK K
   try simp only[zA,zD,zC]
   rw[<-hF.o];have hl:=Lx5x14 W.heap.size (W.alloc (.cells #[.bool x.1,.string x.2.1,.string x.2.2] 48)) (zh ((hg.o.alloc _))) (zh ((oa.o.alloc _))) (zh ((ob.o.alloc _))) (zh (ap.o)) (zh (⟨⟨(Bk.new W 48 [.bool x.1,.string x.2.1,.string x.2.2]).c0,(Bk.new W 48 [.bool x.1,.string x.2.1,.string x.2.2]).c1,(Bk.new W 48 [.bool x.1,.string x.2.1,.string x.2.2]).c2⟩,hg.o.k.size,by rw[zV];exact zw _⟩));rw[ae.o]at hl;exact hl
  exact zR
 have Lx7x12x14:∀(l7:Nat)(aa:Nat)(W:World),Hid (G22 xb gb uv Aa Ab i ca cb x w W)->Hid (W.ownsRow B1 39 1 (Value.slice Aa i ca) i aj)->Hid (W.ownsRow B1 48 3 (Value.slice Ab i cb) i cbs)->Hid (∀b,(Value.slice Aa i ca).ownBlock=some b->(Value.slice Ab i cb).ownBlock≠some b)->Hid (W.cell? ⟨l7,0,none⟩=some (.slice (some ⟨rb,0,none⟩) m m)/\w.heap.size<=l7/\l7<W.heap.size)->Hid ((W.cell? ⟨aa,0,none⟩=some (.bool x.1)/\W.cell? ⟨aa,1,none⟩=some (.string x.2.1)/\W.cell? ⟨aa,2,none⟩=some (.string x.2.2))/\w.heap.size<=aa/\aa<W.heap.size)->F 9 #[true,true,true,true,true,false,true,true,false,true,true,true,true,true,true,false,false,false,false,false,false,false] (fr ay (.slice (some ⟨l7,0,none⟩) 1 1) an (.slice Ab i cb) (.slice (some ⟨aa,0,none⟩) 1 1) ag) W:=by
  intro l7 aa W hg oa ob ap c7 ad;rw[hF.o,ae.o];dsimp only;refine zT (rs:=[5]) (by kernel_rfl) (by simp) ?_;have x1:=hg.o.y.c1;have x9:=hg.o.y.lt;refine zK (o:=_) rfl (fun K hK=>?_) ?_
  .go_simp;clear x1 x9;refine hK.o _ _ (Ai hg.o.b) (fun _=>?_);clear hK K
   try simp only[zA,zD,zC]
   rw[<-hF.o];have hl:=Lx5x7x12x14 l7 aa W hg oa ob ap c7 ad;rw[ae.o]at hl;exact hl
  clear x1 x9;exact zR
 have Lx7x12:∀(l7:Nat)(W:World),Hid (G22 xb gb uv Aa Ab i ca cb x w W)->Hid (W.ownsRow B1 39 1 (Value.slice Aa i ca) i aj)->Hid (W.ownsRow B1 48 3 (Value.slice Ab i cb) i cbs)->Hid (∀b,(Value.slice Aa i ca).ownBlock=some b->(Value.slice Ab i cb).ownBlock≠some b)->Hid (W.cell? ⟨l7,0,none⟩=some (.slice (some ⟨rb,0,none⟩) m m)/\w.heap.size<=l7/\l7<W.heap.size)->F 10 #[true,true,true,true,true,false,true,true,false,true,true,true,true,true,false,false,false,false,false,false,false,false] (fr ay (.slice (some ⟨l7,0,none⟩) 1 1) an (.slice Ab i cb) am ag) W:=by
  intro l7 W hg oa ob ap c7;rw[hF.o,ae.o];dsimp only;refine zT (rs:=[5,14]) (by kernel_rfl) (by simp) ?_;have x1:=hg.o.y.c1;have x9:=hg.o.y.lt;refine zK (o:=_) rfl (fun K hK=>?_) ?_
  .go_simp;clear x1 x9;refine hK.o _ _ (Ai hg.o.b) (fun _=>?_);clear hK K
   try simp only[zA,zD,zC]
   rw[<-hF.o];have hl:=Lx5x7x12 l7 W hg oa ob ap c7;rw[ae.o]at hl;exact hl
  clear x1 x9;refine zK (o:=_) rfl (fun K hK=>?_) ?_
  .go_simp;refine hK.o _ _ (Ai (hg.o.b.alloc _)) (fun _=>?_);clear hK K
   try simp only[zA,zD,zC]
   rw[<-hF.o];have hl:=Lx7x12x14 l7 W.heap.size (W.alloc (.cells #[.bool x.1,.string x.2.1,.string x.2.2] 48)) (zh ((hg.o.alloc _))) (zh ((oa.o.alloc _))) (zh ((ob.o.alloc _))) (zh (ap.o)) (zh (⟨(yK _ _ _ c7.o.2.2).trans c7.o.1,c7.o.2.1,by rw[zV];exact xt c7.o.2.2⟩)) (zh (⟨⟨(Bk.new W 48 [.bool x.1,.string x.2.1,.string x.2.2]).c0,(Bk.new W 48 [.bool x.1,.string x.2.1,.string x.2.2]).c1,(Bk.new W 48 [.bool x.1,.string x.2.1,.string x.2.2]).c2⟩,hg.o.k.size,by rw[zV];exact zw _⟩));rw[ae.o]at hl;exact hl
  exact zR
 have Lx7x14:∀(l7:Nat)(aa:Nat)(W:World),Hid (G22 xb gb uv Aa Ab i ca cb x w W)->Hid (W.ownsRow B1 39 1 (Value.slice Aa i ca) i aj)->Hid (W.ownsRow B1 48 3 (Value.slice Ab i cb) i cbs)->Hid (∀b,(Value.slice Aa i ca).ownBlock=some b->(Value.slice Ab i cb).ownBlock≠some b)->Hid (W.cell? ⟨l7,0,none⟩=some (.slice (some ⟨rb,0,none⟩) m m)/\w.heap.size<=l7/\l7<W.heap.size)->Hid ((W.cell? ⟨aa,0,none⟩=some (.bool x.1)/\W.cell? ⟨aa,1,none⟩=some (.string x.2.1)/\W.cell? ⟨aa,2,none⟩=some (.string x.2.2))/\w.heap.size<=aa/\aa<W.heap.size)->F 10 #[true,true,true,true,true,false,true,true,false,true,true,true,false,true,true,false,false,false,false,false,false,false] (fr ay (.slice (some ⟨l7,0,none⟩) 1 1) an av (.slice (some ⟨aa,0,none⟩) 1 1) ag) W:=by
  intro l7 aa W hg oa ob ap c7 ad;rw[hF.o,ae.o];dsimp only;refine zT (rs:=[5,12]) (by kernel_rfl) (by simp) ?_;have x1:=hg.o.y.c1;have x9:=hg.o.y.lt;refine zK (o:=_) rfl (fun K hK=>?_) ?_
  .go_simp;clear x1 x9;refine hK.o _ _ (Ai hg.o.b) (fun _=>?_);clear hK K
   try simp only[zA,zD,zC]
   rw[<-hF.o];have hl:=Lx5x7x14 l7 aa W hg oa ob ap c7 ad;rw[ae.o]at hl;exact hl
  clear x1 x9;have x1:=hg.o.y.c2;have x9:=hg.o.y.lt;refine zK (o:=_) rfl (fun K hK=>?_) ?_
  .go_simp;clear x1 x9;refine hK.o _ _ (Ai hg.o.b) (fun _=>?_);clear hK K
   try simp only[zA,zD,zC]
   rw[<-hF.o];have hl:=Lx7x12x14 l7 aa W hg oa ob ap c7 ad;rw[ae.o]at hl;exact hl
  clear x1 x9;exact zR
 have Lx7:∀(l7:Nat)(W:World),Hid (G22 xb gb uv Aa Ab i ca cb x w W)->Hid (W.ownsRow B1 39 1 (Value.slice Aa i ca) i aj)->Hid (W.ownsRow B1 48 3 (Value.slice Ab i cb) i cbs)->Hid (∀b,(Value.slice Aa i ca).ownBlock=some b->(Value.slice Ab i cb).ownBlock≠some b)->Hid (W.cell? ⟨l7,0,none⟩=some (.slice (some ⟨rb,0,none⟩) m m)/\w.heap.size<=l7/\l7<W.heap.size)->F 11 #[true,true,true,true,true,false,true,true,false,true,true,true,false,true,false,false,false,false,false,false,false,false] (fr ay (.slice (some ⟨l7,0,none⟩) 1 1) an av am ag) W:=by
  intro l7 W hg oa ob ap c7;rw[hF.o,ae.o];dsimp only;refine zT (rs:=[5,12,14]) (by kernel_rfl) (by simp) ?_;have x1:=hg.o.y.c1;have x9:=hg.o.y.lt;refine zK (o:=_) rfl (fun K hK=>?_) ?_
  .go_simp;clear x1 x9;refine hK.o _ _ (Ai hg.o.b) (fun _=>?_);clear hK K
   try simp only[zA,zD,zC]
   rw[<-hF.o];have hl:=Lx5x7 l7 W hg oa ob ap c7;rw[ae.o]at hl;exact hl
  clear x1 x9;have x1:=hg.o.y.c2;have x9:=hg.o.y.lt;refine zK (o:=_) rfl (fun K hK=>?_) ?_
  .go_simp;clear x1 x9;refine hK.o _ _ (Ai hg.o.b) (fun _=>?_);clear hK K
   try simp only[zA,zD,zC]
   rw[<-hF.o];have hl:=Lx7x12 l7 W hg oa ob ap c7;rw[ae.o]at hl;exact hl
  clear x1 x9;refine zK (o:=_) rfl (fun K hK=>?_) ?_
  .go_simp;refine hK.o _ _ (Ai (hg.o.b.alloc _)) (fun _=>?_);clear hK K
   try simp only[zA,zD,zC]
   rw[<-hF.o];have hl:=Lx7x14 l7 W.heap.size (W.alloc (.cells #[.bool x.1,.string x.2.1,.string x.2.2] 48)) (zh ((hg.o.alloc _))) (zh ((oa.o.alloc _))) (zh ((ob.o.alloc _))) (zh (ap.o)) (zh (⟨(yK _ _ _ c7.o.2.2).trans c7.o.1,c7.o.2.1,by rw[zV];exact xt c7.o.2.2⟩)) (zh (⟨⟨(Bk.new W 48 [.bool x.1,.string x.2.1,.string x.2.2]).c0,(Bk.new W 48 [.bool x.1,.string x.2.1,.string x.2.2]).c1,(Bk.new W 48 [.bool x.1,.string x.2.1,.string x.2.2]).c2⟩,hg.o.k.size,by rw[zV];exact zw _⟩));rw[ae.o]at hl;exact hl
  exact zR
 have Lx12x14:∀(aa:Nat)(W:World),Hid (G22 xb gb uv Aa Ab i ca cb x w W)->Hid (W.ownsRow B1 39 1 (Value.slice Aa i ca) i aj)->Hid (W.ownsRow B1 48 3 (Value.slice Ab i cb) i cbs)->Hid (∀b,(Value.slice Aa i ca).ownBlock=some b->(Value.slice Ab i cb).ownBlock≠some b)->Hid ((W.cell? ⟨aa,0,none⟩=some (.bool x.1)/\W.cell? ⟨aa,1,none⟩=some (.string x.2.1)/\W.cell? ⟨aa,2,none⟩=some (.string x.2.2))/\w.heap.size<=aa/\aa<W.heap.size)->F 10 #[true,true,true,true,true,false,true,false,false,true,true,true,true,true,true,false,false,false,false,false,false,false] (fr ay az an (.slice Ab i cb) (.slice (some ⟨aa,0,none⟩) 1 1) ag) W:=by
  intro aa W hg oa ob ap ad;rw[hF.o,ae.o];dsimp only;refine zT (rs:=[5,7]) (by kernel_rfl) (by simp) ?_;have x1:=hg.o.y.c1;have x9:=hg.o.y.lt;refine zK (o:=_) rfl (fun K hK=>?_) ?_
  .go_simp;clear x1 x9;refine hK.o _ _ (Ai hg.o.b) (fun _=>?_);clear hK K
   try simp only[zA,zD,zC]
   rw[<-hF.o];have hl:=Lx5x12x14 aa W hg oa ob ap ad;rw[ae.o]at hl;exact hl
  clear x1 x9;refine zK (o:=_) rfl (fun K hK=>?_) ?_
  .go_simp;refine hK.o _ _ (Ai (hg.o.b.alloc _)) (fun _=>?_);clear hK K
   try simp only[zA,zD,zC]
   rw[<-hF.o];have hl:=Lx7x12x14 W.heap.size aa (W.alloc (.cells #[.slice (some ⟨rb,0,none⟩) m m] 39)) (zh ((hg.o.alloc _))) (zh ((oa.o.alloc _))) (zh ((ob.o.alloc _))) (zh (ap.o)) (zh (⟨(Bk.new W 39 [.slice (some ⟨rb,0,none⟩) m m]).c0,hg.o.k.size,by rw[zV];exact zw _⟩)) (zh (⟨⟨(yK _ _ _ ad.o.2.2).trans ad.o.1.1,(yK _ _ _ ad.o.2.2).trans ad.o.1.2.1,(yK _ _ _ ad.o.2.2).trans ad.o.1.2.2⟩,ad.o.2.1,by rw[zV];exact xt ad.o.2.2⟩));rw[ae.o]at hl;exact hl
  exact zR
 have Lx12:∀(W:World),Hid (G22 xb gb uv Aa Ab i ca cb x w W)->Hid (W.ownsRow B1 39 1 (Value.slice Aa i ca) i aj)->Hid (W.ownsRow B1 48 3 (Value.slice Ab i cb) i cbs)->Hid (∀b,(Value.slice Aa i ca).ownBlock=some b->(Value.slice Ab i cb).ownBlock≠some b)->F 11 #[true,true,true,true,true,false,true,false,false,true,true,true,true,true,false,false,false,false,false,false,false,false] (fr ay az an (.slice Ab i cb) am ag) W:=by
  intro  W hg oa ob ap;rw[hF.o,ae.o];dsimp only;refine zT (rs:=[5,7,14]) (by kernel_rfl) (by simp) ?_;have x1:=hg.o.y.c1;have x9:=hg.o.y.lt;refine zK (o:=_) rfl (fun K hK=>?_) ?_
  .go_simp;clear x1 x9;refine hK.o _ _ (Ai hg.o.b) (fun _=>?_);clear hK K
   try simp only[zA,zD,zC]
   rw[<-hF.o];have hl:=Lx5x12  W hg oa ob ap;rw[ae.o]at hl;exact hl
  clear x1 x9;refine zK (o:=_) rfl (fun K hK=>?_) ?_
  .go_simp;refine hK.o _ _ (Ai (hg.o.b.alloc _)) (fun _=>?_);clear hK K
   try simp only[zA,zD,zC]
   rw[<-hF.o];have hl:=Lx7x12 W.heap.size (W.alloc (.cells #[.slice (some ⟨rb,0,none⟩) m m] 39)) (zh ((hg.o.alloc _))) (zh ((oa.o.alloc _))) (zh ((ob.o.alloc _))) (zh (ap.o)) (zh (⟨(Bk.new W 39 [.slice (some ⟨rb,0,none⟩) m m]).c0,hg.o.k.size,by rw[zV];exact zw _⟩));rw[ae.o]at hl;exact hl
  refine zK (o:=_) rfl (fun K hK=>?_) ?_
  .go_simp;refine hK.o _ _ (Ai (hg.o.b.alloc _)) (fun _=>?_);clear hK K
   try simp only[zA,zD,zC]
   rw[<-hF.o];have hl:=Lx12x14 W.heap.size (W.alloc (.cells #[.bool x.1,.string x.2.1,.string x.2.2] 48)) (zh ((hg.o.alloc _))) (zh ((oa.o.alloc _))) (zh ((ob.o.alloc _))) (zh (ap.o)) (zh (⟨⟨(Bk.new W 48 [.bool x.1,.string x.2.1,.string x.2.2]).c0,(Bk.new W 48 [.bool x.1,.string x.2.1,.string x.2.2]).c1,(Bk.new W 48 [.bool x.1,.string x.2.1,.string x.2.2]).c2⟩,hg.o.k.size,by rw[zV];exact zw _⟩));rw[ae.o]at hl;exact hl
  exact zR
 have Lx14:∀(aa:Nat)(W:World),Hid (G22 xb gb uv Aa Ab i ca cb x w W)->Hid (W.ownsRow B1 39 1 (Value.slice Aa i ca) i aj)->Hid (W.ownsRow B1 48 3 (Value.slice Ab i cb) i cbs)->Hid (∀b,(Value.slice Aa i ca).ownBlock=some b->(Value.slice Ab i cb).ownBlock≠some b)->Hid ((W.cell? ⟨aa,0,none⟩=some (.bool x.1)/\W.cell? ⟨aa,1,none⟩=some (.string x.2.1)/\W.cell? ⟨aa,2,none⟩=some (.string x.2.2))/\w.heap.size<=aa/\aa<W.heap.size)->F 11 #[true,true,true,true,true,false,true,false,false,true,true,true,false,true,true,false,false,false,false,false,false,false] (fr ay az an av (.slice (some ⟨aa,0,none⟩) 1 1) ag) W:=by
  intro aa W hg oa ob ap ad;rw[hF.o,ae.o];dsimp only;refine zT (rs:=[5,7,12]) (by kernel_rfl) (by simp) ?_;have x1:=hg.o.y.c1;have x9:=hg.o.y.lt;refine zK (o:=_) rfl (fun K hK=>?_) ?_
  .go_simp;clear x1 x9;refine hK.o _ _ (Ai hg.o.b) (fun _=>?_);clear hK K
   try simp only[zA,zD,zC]
   rw[<-hF.o];have hl:=Lx5x14 aa W hg oa ob ap ad;rw[ae.o]at hl;exact hl
  clear x1 x9;refine zK (o:=_) rfl (fun K hK=>?_) ?_
  .go_simp;refine hK.o _ _ (Ai (hg.o.b.alloc _)) (fun _=>?_);clear hK K
   try simp only[zA,zD,zC]
   rw[<-hF.o];have hl:=Lx7x14 W.heap.size aa (W.alloc (.cells #[.slice (some ⟨rb,0,none⟩) m m] 39)) (zh ((hg.o.alloc _))) (zh ((oa.o.alloc _))) (zh ((ob.o.alloc _))) (zh (ap.o)) (zh (⟨(Bk.new W 39 [.slice (some ⟨rb,0,none⟩) m m]).c0,hg.o.k.size,by rw[zV];exact zw _⟩)) (zh (⟨⟨(yK _ _ _ ad.o.2.2).trans ad.o.1.1,(yK _ _ _ ad.o.2.2).trans ad.o.1.2.1,(yK _ _ _ ad.o.2.2).trans ad.o.1.2.2⟩,ad.o.2.1,by rw[zV];exact xt ad.o.2.2⟩));rw[ae.o]at hl;exact hl
  have x1:=hg.o.y.c2;have x9:=hg.o.y.lt;refine zK (o:=_) rfl (fun K hK=>?_) ?_
  .go_simp;clear x1 x9;refine hK.o _ _ (Ai hg.o.b) (fun _=>?_);clear hK K
   try simp only[zA,zD,zC]
   rw[<-hF.o];have hl:=Lx12x14 aa W hg oa ob ap ad;rw[ae.o]at hl;exact hl
  clear x1 x9;exact zR
 have L:∀(W:World),Hid (G22 xb gb uv Aa Ab i ca cb x w W)->Hid (W.ownsRow B1 39 1 (Value.slice Aa i ca) i aj)->Hid (W.ownsRow B1 48 3 (Value.slice Ab i cb) i cbs)->Hid (∀b,(Value.slice Aa i ca).ownBlock=some b->(Value.slice Ab i cb).ownBlock≠some b)->F 12 #[true,true,true,true,true,false,true,false,false,true,true,true,false,true,false,false,false,false,false,false,false,false] (fr ay az an av am ag) W:=by
  intro  W hg oa ob ap;rw[hF.o,ae.o];dsimp only;refine zT (rs:=[5,7,12,14]) (by kernel_rfl) (by simp) ?_;have x1:=hg.o.y.c1;have x9:=hg.o.y.lt;refine zK (o:=_) rfl (fun K hK=>?_) ?_
  .go_simp;clear x1 x9;refine hK.o _ _ (Ai hg.o.b) (fun _=>?_);clear hK K
   try simp only[zA,zD,zC]
   rw[<-hF.o];have hl:=Lx5  W hg oa ob ap;rw[ae.o]at hl;exact hl
  clear x1 x9;refine zK (o:=_) rfl (fun K hK=>?_) ?_
  .go_simp;refine hK.o _ _ (Ai (hg.o.b.alloc _)) (fun _=>?_);clear hK K
   try simp only[zA,zD,zC]
   rw[<-hF.o];have hl:=Lx7 W.heap.size (W.alloc (.cells #[.slice (some ⟨rb,0,none⟩) m m] 39)) (zh ((hg.o.alloc _))) (zh ((oa.o.alloc _))) (zh ((ob.o.alloc _))) (zh (ap.o)) (zh (⟨(Bk.new W 39 [.slice (some ⟨rb,0,none⟩) m m]).c0,hg.o.k.size,by rw[zV];exact zw _⟩));rw[ae.o]at hl;exact hl
  have x1:=hg.o.y.c2;have x9:=hg.o.y.lt;refine zK (o:=_) rfl (fun K hK=>?_) ?_
  .go_simp;clear x1 x9;refine hK.o _ _ (Ai hg.o.b) (fun _=>?_);clear hK K
   try simp only[zA,zD,zC]
   rw[<-hF.o];have hl:=Lx12  W hg oa ob ap;rw[ae.o]at hl;exact hl
  clear x1 x9;refine zK (o:=_) rfl (fun K hK=>?_) ?_
  .go_simp;refine hK.o _ _ (Ai (hg.o.b.alloc _)) (fun _=>?_);clear hK K
   try simp only[zA,zD,zC]
   rw[<-hF.o];have hl:=Lx14 W.heap.size (W.alloc (.cells #[.bool x.1,.string x.2.1,.string x.2.2] 48)) (zh ((hg.o.alloc _))) (zh ((oa.o.alloc _))) (zh ((ob.o.alloc _))) (zh (ap.o)) (zh (⟨⟨(Bk.new W 48 [.bool x.1,.string x.2.1,.string x.2.2]).c0,(Bk.new W 48 [.bool x.1,.string x.2.1,.string x.2.2]).c1,(Bk.new W 48 [.bool x.1,.string x.2.1,.string x.2.2]).c2⟩,hg.o.k.size,by rw[zV];exact zw _⟩));rw[ae.o]at hl;exact hl
  exact zR
 have hl:=L w.drew cr cB cD ap;rw[ae.o]at hl;exact Xh (by kernel_rfl) (by kernel_rfl) (by kernel_rfl) hl
end Sh
end
section
namespace Sh
open Nt Ci
theorem Hv(p:Nat)(f:Nat->Rat)(l m:List Lp):Ao p f (l++m)=Ao p f l+Ao p f m:=by
 induction l with
 |nil=>show Ao p f m=0+Ao p f m;grind
 |cons x l ih=>
  rw[yY]
  show (if x.1=p then x.2.2*f x.2.1 else 0)+Ao p f (l++m)=(if x.1=p then x.2.2*f x.2.1 else 0)+Ao p f l+Ao p f m
  rw[ih,Rat.add_assoc]
theorem CF{p:Nat}{f:Nat->Rat}{l:List Lp}{k:Nat}(h:k<l.length):Ao p f (l.take (k+1))=Ao p f (l.take k)+if l[k].1=p then l[k].2.2*f l[k].2.1 else 0:=by
 rw[zP h,Hv]
 congr 1
 show (if l[k].1=p then l[k].2.2*f l[k].2.1 else 0)+0=_
 exact ww _
theorem KP{p:Nat}{f:Nat->Rat}{l:List Lp}(hp:∀x,x∈l->0<x.2.2)(hf:∀x,x∈l->0<=f x.2.1)(k:Nat):Ao p f (l.take k)<=Ao p f l:=by
 have h:=Hv p f (l.take k) (l.drop k);rw[xP]at h;have h2:=BP (p:=p) (f:=f) (L:=l.drop k) (fun x hx=>hp x (wW hx)) fun x hx _=>hf x (wW hx);grind
theorem Caps.take{n:Nat}{L:List Lp}(h:Caps n L)(k:Nat):Caps n (L.take k):=by
 refine⟨fun x hx=>h.lt x (yE hx),fun x hx=>h.whole x (yE hx),fun x hx=>h.pos x (yE hx),fun p=>?_⟩;have h1:=KP (p:=p) (f:=fun _=>1) h.pos (fun _ _=>by decide) k;have h2:=h.le1 p;grind
theorem VD{n:Nat}{L:List Lp}(h:Caps n L)(p q:Nat)(b:Bool):Fit 6000 ((if b=true then 1 else 0)-Ao p (fun h=>if h=q then 1 else 0) L):=by
 have h0:=BP (p:=p) (f:=fun h=>if h=q then 1 else 0) h.pos fun x _ _=>by split<;>decide
 have h1:Ao p (fun h=>if h=q then 1 else 0) L<=1:=h.le_of (by decide) fun x _ _=>by split<;>decide
 have h2:=h.int_sum (p:=p) (f:=fun h=>if h=q then 1 else 0) (D:=1) fun x _ _=>by
  split
  .exact IsI.one.mul IsI.one
  exact IsI.one.mul IsI.zero
 refine⟨?_,?_,6000,by omega,zB _,?_⟩
 .split<;>grind
 .split<;>grind
 have e:((6000:Nat):Rat)*((if b=true then 1 else 0)-Ao p (fun h=>if h=q then 1 else 0) L)=(if b=true then 1 else 0)*6000+-(6000*1*Ao p (fun h=>if h=q then 1 else 0) L):=by
  rw[show ((6000:Nat):Rat)=6000 from rfl];grind
 rw[e];refine IsI.add ?_ h2.neg
 split
 .exact IsI.one.mul (IsI.nat 6000)
 exact IsI.zero.mul (IsI.nat 6000)
theorem Q5{n D:Nat}{L:List Lp}(h:Caps n L)(p:Nat){f:Nat->Rat}(hD:0<D)(hf:∀q,0<=f q/\f q<=1)(hi:∀q,IsI ((D:Rat)*f q)):Fit (6000*D) (Ao p f L):=by
 have h0:=BP (p:=p) (f:=f) h.pos fun x _ _=>(hf x.2.1).1;have h1:Ao p f L<=1:=h.le_of (by decide) fun x _ _=>(hf x.2.1).2;have h2:=h.int_sum (p:=p) (f:=f) (D:=(D:Rat)) fun x _ _=>hi x.2.1;refine⟨by grind,h1,6000*D,wM (by omega) hD,zB _,?_⟩;rw[xh];exact h2
theorem Sys.congr{n c D:Nat}{A B:Mx}{v:Nat->Rat}(h:Sys n c D A v)(e:∀i j,i<n->j<=n->B i j=A i j):Sys n c D B v:=by
 obtain⟨⟨a1,a2,a3,a4,a5,a6⟩,h2,h3,h4,h5⟩:=h;refine⟨⟨fun i hi=>?_,fun i j hi hj hn=>?_,fun i hi=>?_,fun i hi=>?_,fun i hi=>?_,a6⟩,h2,h3,fun i j hi hj=>?_,fun i hi=>?_⟩
 .rw[e i i hi (by omega)];exact a1 i hi
 .rw[e i j hi (by omega)];exact a2 i j hi hj hn
 .rw[e i n hi (zB _)];exact a3 i hi
 .rw[e i n hi (zB _),Az (f:=B i) (g:=A i) fun j hj=>e i j hi (by omega)];exact a4 i hi
 .rw[Az (g:=fun j=>A i j*v j) fun j hj=>by rw[e i j hi (by omega)]];exact a5 i hi
 .rw[e i j hi (by omega)];exact h4 i j hi hj
 rw[e i n hi (zB _)];exact h5 i hi
def CZ(L:List Lp)(u:List Nat)(val:Nat->Rat):List (List Raw):=(List.range u.length).map fun i=>B9 u.length (Bg L u val i)
def F0(L:List Lp)(u:List Nat)(val:Nat->Rat):List Raw:=B9 u.length fun i=>Bg L u val i u.length
theorem JW{n:Nat}{f:Nat->Rat}{i:Nat}(h:i<n)(d:Raw):(B9 n f).getD i d=rq (f i):=by
 rw[E0 (by rw[Au];exact h),BN]
theorem NX{L:List Lp}{u:List Nat}{val:Nat->Rat}{i:Nat}(h:i<u.length):(CZ L u val).getD i []=B9 u.length (Bg L u val i):=by
 unfold CZ;rw[E0 (by simpa using h)];simp
theorem Xi{x:Rat}{B:Nat}(h:Fit B x)(hB:B<L1):OkQ x:=(Cm h hB).ok
theorem Wx:6000^17<L1:=zn (zj (by omega) (by omega)) LZ
theorem Me{n D:Nat}{L:List Lp}{F done u:List Nat}{val:Nat->Rat}(hL:Caps n L)(hi:Inv L F done val D)(hx:Nxt L F done u)(af:done.length+u.length<=16)(h8:u.length<=8):
 DS (CZ L u val) (F0 L u val)=.ok (B9 u.length fun i=>Cx SQ L u val (u.getD i 0)):=by
 have hs:=hx.sys hL hi
 have ad:∀i j,i<u.length->j<=u.length->OkQ (Bg L u val i j):=fun i j h1 h2=>by
  have:=hs.fit (Mad.start u.length _) hs.shs (zS _) h1 h2;refine Xi (this.mono ?_) Wx
  calc 6000^(u.length+1)*D<=6000^(u.length+1)*6000^done.length:=yr _ hi.dle
   _=6000^(u.length+1+done.length):=(xu _ _ _).symm
   _<=6000^17:=zj (by omega) (by omega)
 have aa:(F0 L u val).length=u.length:=Au _ _;have ae:(CZ L u val).length=u.length:=by unfold CZ;simp
 have hb:allV (F0 L u val)=true:=ER.2 fun i h=>by
  have e:(F0 L u val)[i]=rq (Bg L u val i u.length):=BN u.length (fun i=>Bg L u val i u.length) i h;rw[e];exact OR (ad i _ (by rwa [aa]at h) (zB _))
 have ha:Qo (F0 L u val).length (CZ L u val)=true:=LL.2 fun i h=>by
  rw[ae]at h;have e:(CZ L u val)[i]'(by rw[ae];exact h)=B9 u.length (Bg L u val i):=by unfold CZ;simp
  rw[e,aa];refine⟨Au _ _,ER.2 fun j hj=>?_⟩;rw[BN];rw[Au]at hj;exact OR (ad i j h (xF hj))
 have hM:∀i j,i<u.length->j<=u.length->H6 (CZ L u val) (F0 L u val) i j=Bg L u val i j:=fun i j h1 h2=>by
  unfold H6;rw[aa]
  by_cases e:j=u.length
  .rw[zF e,e];unfold F0;rw[JW h1,Tf]
  rw[zE e,NX h1,JW (by omega),Tf]
 have hS:∀x,Fit ((6000^(u.length+1)*D)*(6000^(u.length+1)*D)) x->SQ x=true:=fun x h=>KN x (h.mono (JS hi.dle af));obtain⟨M,m1,m2,_⟩:=(hs.congr hM).result (S:=SQ) hS;obtain⟨N,n1,n2,_⟩:=hs.result (S:=SQ) hS;have hv:Cx SQ L u val=fun p=>if p∈u then N (u.idxOf p) u.length else val p:=by unfold Cx;rw[n1]
 have ag:∀i,i<u.length->M i u.length=N i u.length:=by
  have h1:Sol u.length (H6 (CZ L u val) (F0 L u val)) (fun i=>N i u.length) (fun i=>H6 (CZ L u val) (F0 L u val) i u.length):=fun i d=>by
   have h2:(At u.length fun j=>Bg L u val i j*N j u.length)=Bg L u val i u.length:=(n2 (fun i=>N i u.length)).2 (fun _ _=>rfl) i d
   show (At u.length fun j=>H6 (CZ L u val) (F0 L u val) i j*N j u.length)=H6 (CZ L u val) (F0 L u val) i u.length
   rw[hM i _ d (zB _),<-h2];exact Az fun j hj=>by rw[hM i j d (xF hj)]
  exact fun i d=>((m2 _).1 h1 i d).symm
 unfold DS;rw[zF ⟨ae.trans aa.symm,hb,ha⟩,zF (by rw[aa];exact h8),aa,m1]
 show Except.ok (B9 u.length fun i=>M i u.length)=_
 congr 1
 apply NL;intro i d;rw[ag i d,hv];dsimp only;rw[zF (ET d),Gt hx.nodup d]
theorem Ready.nodup{L:List Lp}{F:List Nat}:∀{us:List (List Nat)} {done:List Nat},Ready L F done us->done.Nodup->(done++us.flatten).Nodup:=by
 intro us
 induction us with
 |nil=>intro done _ h;simpa using h
 |cons u us ih=>
  intro done h hd;rw[wV,<-xr];refine ih h.2 (List.nodup_append.2 ⟨hd,h.1.nodup,fun a ha b hb e=>?_⟩);subst e;exact h.1.new a hb ha
theorem Ready.lt{n:Nat}{F:List Nat}{E:List (Nat×Nat)}:∀p,p∈(BQ n E F).flatten->p<n:=by
 intro p hp;obtain⟨u,hu,hp⟩:=List.mem_flatten.1 hp;unfold BQ at hu;obtain⟨c,hc,rfl⟩:=List.mem_map.1 hu;have h1:=(E3.1 hp).1;unfold Ax at hc;obtain⟨q,_,rfl⟩:=List.mem_map.1 hc;exact(CL.1 h1).1
theorem ID{n:Nat}{L:List Lp}{F:List Nat}(hL:Caps n L):(BQ n (Am L) F).flatten.length<=n:=by
 have h:=(GO (F:=F) hL.inN).nodup vL;rw[yM]at h;exact Cy n _ h Ready.lt
noncomputable def AX(n:Nat)(E:List (Nat×Nat))(F:List Nat):Bool:=(BQ n E F).any (fun u=>decide (8<u.length))||decide (16<(BQ n E F).flatten.length)
theorem T4{n:Nat}{L:List Lp}{F:List Nat}(hL:Caps n L)(hn:n<=8):AX n (Am L) F=false:=by
 have h:=ID (F:=F) hL;unfold AX;rw[Bool.or_eq_false_iff,List.any_eq_false];refine⟨fun u hu=>?_,zH (by omega)⟩;have:u.length<=(BQ n (Am L) F).flatten.length:=(List.sublist_flatten_of_mem hu).length_le;simp only[yC];omega
theorem IE{n:Nat}{E:List (Nat×Nat)}{F:List Nat}(h:AX n E F=false):(∀u,u∈BQ n E F->u.length<=8)/\(BQ n E F).flatten.length<=16:=by
 unfold AX at h;rw[Bool.or_eq_false_iff,List.any_eq_false]at h;refine⟨fun u hu=>?_,by have:=yA h.2;omega⟩;have:=h.1 u hu;simp only[yC]at this;omega
section
variable {n:Nat} {L:List Lp} {u:List Nat} {val:Nat->Rat} {i k j:Nat}
def Ca(L:List Lp)(u:List Nat)(i k j:Nat):Rat:=(if i=j then 1 else 0)-Ao (u.getD i 0) (fun h=>if h=u.getD j 0 then 1 else 0) (L.take k)
def BA(L:List Lp)(u:List Nat)(val:Nat->Rat)(i k:Nat):Rat:=Ao (u.getD i 0) (fun h=>if h∈u then 0 else val h) (L.take k)
theorem Q6:Ca L u i 0 j=if i=j then 1 else 0:=by
 unfold Ca
 show _-(0:Rat)=_
 grind
theorem Q7:BA L u val i 0=0:=rfl
theorem Mf(hj:j<u.length):Ca L u i L.length j=Bg L u val i j:=by
 unfold Ca Bg;dsimp only;rw[zu];have e:¬j=u.length:=by omega
 rw[zE e]
theorem Mg:BA L u val i L.length=Bg L u val i u.length:=by
 unfold BA Bg;dsimp only;rw[zu,zF rfl]
theorem T5(hk:k<L.length)(h:L[k].1≠u.getD i 0):(∀j,Ca L u i (k+1) j=Ca L u i k j)/\BA L u val i (k+1)=BA L u val i k:=by
 refine⟨fun j=>?_,?_⟩
 .unfold Ca;rw[CF hk,zE h,ww]
 unfold BA;rw[CF hk,zE h,ww]
theorem Xj(hu:u.Nodup)(hk:k<L.length)(h:L[k].1=u.getD i 0){c:Nat}(hc:c<u.length)(hh:L[k].2.1=u.getD c 0):
 (∀j,j<u.length->Ca L u i (k+1) j=if j=c then Ca L u i k c+-1*L[k].2.2 else Ca L u i k j)/\BA L u val i (k+1)=BA L u val i k:=by
 refine⟨fun j hj=>?_,?_⟩
 .unfold Ca;rw[CF hk,zF h,hh]
  by_cases e:j=c
  .subst e;have e1:(if u.getD j 0=u.getD j 0 then (1:Rat) else 0)=1:=zF rfl;rw[e1,zF (rfl:j=j)];grind
  have e1:(if u.getD c 0=u.getD j 0 then (1:Rat) else 0)=0:=zE fun e2=>by
   have:=Gt hu hj;rw[<-e2,Gt hu hc]at this;exact e this.symm
  rw[e1,zE e];grind
 unfold BA;rw[CF hk,zF h,zF (by rw[hh];exact ET hc)];grind
theorem OZ(hk:k<L.length)(h:L[k].1=u.getD i 0)(hh:L[k].2.1∉u):
 (∀j,j<u.length->Ca L u i (k+1) j=Ca L u i k j)/\BA L u val i (k+1)=BA L u val i k+L[k].2.2*val L[k].2.1:=by
 refine⟨fun j hj=>?_,?_⟩
 .unfold Ca;have e1:(if L[k].2.1=u.getD j 0 then (1:Rat) else 0)=0:=zE fun e=>hh (by rw[e];exact ET hj);rw[CF hk,zF h,e1];grind
 unfold BA;rw[CF hk,zF h,zE hh]
theorem IF(hL:Caps n L):ShortQ (Ca L u i k j):=by
 have:=VD (hL.take k) (u.getD i 0) (u.getD j 0) (decide (i=j));unfold Ca;simp only[yC]at this;exact Cm this (zn (by have:6000^1<=6000^34:=zj (by omega) (by omega);omega) LZ)
theorem T6{D:Nat}(h:D<=6000^16):6000*D<L1:=by
 refine zn ?_ Wx
 calc 6000*D<=6000*6000^16:=yr _ h
  _=6000^17:=by rw[yy 6000 16,yT]
structure Vals(val:Nat->Rat)(D:Nat):Prop where
 rng:∀p,0<=val p/\val p<=1
 dp:0<D
 dle:D<=6000^16
 whole:∀p,IsI ((D:Rat)*val p)
theorem Vals.fit{D:Nat}(h:Vals val D)(p:Nat):Fit D (val p):=⟨by have:=(h.rng p).1;grind,(h.rng p).2,D,h.dp,zB _,h.whole p⟩
theorem Vals.short{D:Nat}(h:Vals val D)(p:Nat):ShortQ (val p):=Cm (h.fit p) (zn h.dle (zn (zj (by omega) (by omega)) LZ))
theorem IG{D:Nat}(hL:Caps n L)(h:Vals val D):ShortQ (BA L u val i k):=by
 have:=Q5 (hL.take k) (u.getD i 0) (f:=fun q=>if q∈u then 0 else val q) h.dp (fun q=>by
  split
  .constructor<;>decide
  .exact h.rng q) fun q=>by
  split
  .rw[vj];exact IsI.zero
  exact h.whole q
 exact Cm this (T6 h.dle)
theorem Gw(hL:Caps n L)(hk:k<L.length):Fit 6000 L[k].2.2:=by
 have h1:=hL.pos _ (zO hk);have h2:=hL.whole _ (zO hk);have h3:=hL.le1 L[k].1;have h4:=Gs (p:=L[k].1) (f:=fun _=>0) (g:=fun _=>1) hL.pos (fun _ _ _=>by decide) (zO hk) rfl;rw[Ei fun _ _ _=>rfl]at h4;exact⟨by grind,by grind,6000,by omega,zB _,h2⟩
theorem Q8:6000<L1:=zn (by have:6000^1<=6000^34:=zj (by omega) (by omega);omega) LZ
theorem IH(hL:Caps n L)(hk:k<L.length):ShortQ L[k].2.2:=Cm (Gw hL hk) Q8
theorem T7(hL:Caps n L)(hk:k<L.length):ShortQ (-1*L[k].2.2):=by
 obtain⟨a,b,d,d1,d2,d3⟩:=Gw hL hk
 have:Fit 6000 (-1*L[k].2.2):=⟨by grind,by grind,d,d1,d2,by
  have e:(d:Rat)*(-1*L[k].2.2)=-((d:Rat)*L[k].2.2):=by grind
  rw[e];exact d3.neg⟩
 exact Cm this Q8
theorem T8{D:Nat}(hL:Caps n L)(h:Vals val D)(hk:k<L.length)(q:Nat):ShortQ (L[k].2.2*val q):=by
 have h1:=Gw hL hk;have h0:=hL.pos _ (zO hk);have h2:=h.rng q;have h3:=(hL.whole _ (zO hk)).mul (h.whole q)
 have e:6000*L[k].2.2*((D:Rat)*val q)=((6000*D:Nat):Rat)*(L[k].2.2*val q):=by
  rw[xh,show ((6000:Nat):Rat)=6000 from rfl];grind
 rw[e]at h3;have h4:=xm (xL h0) h2.1;have h5:=yO h2.2 (xL h0);have h6:=h1.2.1;have:Fit (6000*D) (L[k].2.2*val q):=⟨by grind,by grind,6000*D,wM (by omega) h.dp,zB _,h3⟩;exact Cm this (T6 h.dle)
theorem Yn(hu:u.Nodup){h c:Nat}(hc:c<u.length)(e:h=u.getD c 0):Fz (u.map fun(q:Nat)=>(q:Int)) (h:Int)=(c:Int):=by
 have d:c<(u.map fun(q:Nat)=>(q:Int)).length:=by simpa using hc
 refine Wv d (fun j hj aa=>?_) ?_
 .rw[yJ];intro e2;have e3:u[j]'(by simpa using hj)=h:=by omega
  rw[e,D1 hc]at e3;have hp:=List.pairwise_iff_getElem.1 hu j c (by simpa using hj) hc aa;exact hp e3
 rw[yJ,e,D1 hc]
theorem Xk{h:Nat}(e:h∉u):Fz (u.map fun(q:Nat)=>(q:Int)) (h:Int)=-1:=by
 refine Ww fun j hj=>?_;rw[yJ];intro e2
 exact e (by have e3:u[j]'(by simpa using hj)=h:=by omega
             rw[<-e3];exact zO _)
end
theorem kp_trans{xs ys:List Nat}{w w' w'':World}(h:Kp xs w w')(h2:Kp ys w' w'')(hy:∀y,y∈ys->y∈xs\/w.heap.size<=y):Kp xs w w'' :=
 ⟨h2.os.trans h.os,h2.tape.trans h.tape,h2.output.trans h.output,zQ h.size h2.size,fun k hk hx=>(h2.block k (zJ hk h.size) (fun hm=>(hy k hm).elim hx (fun c=>by omega))).trans (h.block k hk hx)⟩
theorem Pa{xs:List Nat}{base size m:Nat}{e:TypeId}{u:Value}{l:List Value}{w w':World}(h:w.ownsRow base e size u m l)(hk:Kp xs w w')(hb:∀b,u.ownBlock=some b->b∉xs):w'.ownsRow base e size u m l:=by
 obtain⟨h1,h2⟩:=h;refine⟨h1,?_⟩
 rcases h2 with h2|⟨g,cap,cur,hv,hg,hh,rest⟩
 .exact .inl h2
 exact .inr ⟨g,cap,cur,hv,hg,(hk.block g (Array.getElem?_eq_some_iff.1 hh).1 (hb g (by rw[hv];rfl))).trans hh,rest⟩
theorem KQ{xs:List Nat}{w w':World}{b m:Nat}{r:Nat->Raw}(h:RowB w b m r)(hk:Kp xs w w')(hb:b∉xs):RowB w' b m r:=(hk.block b h.lt hb).trans h
end Sh
end
section
open Go.RowKit Go.Shelf
namespace Sh
open Nt Ci
def BdI(w W:World)(xb m i:Nat)(uv:Value)(M:Mx):Prop :=
 ∃(Aa Ab:Option Addr)(ca cb:Nat)(bl:Nat->Nat),Kp [xb] w W/\Bk W xb 84 [uv,.slice Aa i ca,.slice Ab i cb] /\
  W.ownsRow w.heap.size 39 1 (.slice Aa i ca) i ((List.range i).map fun k=>.slice (some ⟨bl k,0,none⟩) m m) /\
  W.ownsRow w.heap.size 48 3 (.slice Ab i cb) i (AM i fun k=>rq (M k m)) /\
  (∀b,(Value.slice Aa i ca).ownBlock=some b->(Value.slice Ab i cb).ownBlock≠some b) /\
  ∀k,k<i->RowB W (bl k) m (fun j=>rq (M k j))/\(Value.slice Aa i ca).ownBlock≠some (bl k)/\(Value.slice Ab i cb).ownBlock≠some (bl k)/\bl k≠xb
theorem BdI.start{w:World}{xb m:Nat}{uv:Value}{M:Mx}(h:Bk w xb 84 [uv,.slice none 0 0,.slice none 0 0]):BdI w w xb m 0 uv M :=
 ⟨none,none,0,0,fun _=>0,Kp.refl _ _,h,yf _ _ _ _,yf _ _ _ _,(fun b e=>by cases e),fun k h=>absurd h (yB _)⟩
theorem BdI.step{w wy wz W:World}{xb m i rb:Nat}{uv:Value}{M:Mx}{Aa Ab Aa2 Ab2:Option Addr}{ca cb h aa:Nat}{bl:Nat->Nat}
 (hK:Kp [xb] w wy)(ah:wy.ownsRow w.heap.size 39 1 (.slice Aa i ca) i ((List.range i).map fun k=>.slice (some ⟨bl k,0,none⟩) m m))
 (ai:wy.ownsRow w.heap.size 48 3 (.slice Ab i cb) i (AM i fun k=>rq (M k m)))
 (ae:∀k,k<i->RowB wy (bl k) m (fun j=>rq (M k j))/\(Value.slice Aa i ca).ownBlock≠some (bl k)/\(Value.slice Ab i cb).ownBlock≠some (bl k)/\bl k≠xb)
 (hB:Below wy.heap.size wy wz)(aj:rb=wy.heap.size)(al:xb<wy.heap.size)(ad:RowB wz rb m fun j=>rq (M i j))
 (k1:Kp (xb::((Value.slice Aa i ca).ownBlock.toList++(Value.slice Ab i cb).ownBlock.toList)) wz W)
 (k2:Bk W xb 84 [uv,.slice Aa2 (i+1) h,.slice Ab2 (i+1) aa])
 (k3:W.ownsRow w.heap.size 39 1 (.slice Aa2 (i+1) h) (i+1) (((List.range i).map fun k=>.slice (some ⟨bl k,0,none⟩) m m)++[.slice (some ⟨rb,0,none⟩) m m]))
 (k4:W.ownsRow w.heap.size 48 3 (.slice Ab2 (i+1) aa) (i+1) ((AM i fun k=>rq (M k m))++[.bool (rq (M i m)).1,.string (rq (M i m)).2.1,.string (rq (M i m)).2.2]))
 (k5:∀b,(Value.slice Aa2 (i+1) h).ownBlock=some b->(Value.slice Ab2 (i+1) aa).ownBlock≠some b)
 (k6:(Value.slice Aa2 (i+1) h).ownBlock=(Value.slice Aa i ca).ownBlock\/∃b,(Value.slice Aa2 (i+1) h).ownBlock=some b/\wz.heap.size<=b)
 (k7:(Value.slice Ab2 (i+1) aa).ownBlock=(Value.slice Ab i cb).ownBlock\/∃b,(Value.slice Ab2 (i+1) aa).ownBlock=some b/\wz.heap.size<=b):BdI w W xb m (i+1) uv M:=by
 have am:=hB.size;have ak:=ad.lt;have la:∀b,(Value.slice Aa i ca).ownBlock=some b->w.heap.size<=b/\b<wy.heap.size:=fun b e=>ah.lt b e;have lb:∀b,(Value.slice Ab i cb).ownBlock=some b->w.heap.size<=b/\b<wy.heap.size:=fun b e=>ai.lt b e
 have af:∀{b:Nat},b≠xb->(Value.slice Aa i ca).ownBlock≠some b->(Value.slice Ab i cb).ownBlock≠some b->b∉(xb::((Value.slice Aa i ca).ownBlock.toList++(Value.slice Ab i cb).ownBlock.toList)):=fun {b} h1 h2 h3 hm=>by
  rcases List.mem_cons.1 hm with c|c
  .exact h1 c
  rcases List.mem_append.1 c with c|c
  .exact h2 (by simpa using c)
  exact h3 (by simpa using c)
 refine⟨Aa2,Ab2,h,aa,fun k=>if k=i then rb else bl k,?_,k2,?_,?_,k5,?_⟩
 .refine kp_trans (hK.below hB) k1 fun y hy=>?_
  rcases List.mem_cons.1 hy with c|c
  .exact .inl (by simp[c])
  rcases List.mem_append.1 c with c|c
  .exact .inr (la y (by simpa using c)).1
  exact .inr (lb y (by simpa using c)).1
 .have e:(List.range (i+1)).map (fun k=>Value.slice (some ⟨if k=i then rb else bl k,0,none⟩) m m)=((List.range i).map fun k=>.slice (some ⟨bl k,0,none⟩) m m)++[.slice (some ⟨rb,0,none⟩) m m]:=by
   rw[xo,yD,List.map_singleton,zF rfl]
   congr 1
   refine xi fun k hk=>?_;rw[zE (by have:=List.mem_range.1 hk;omega)]
  rw[e];exact k3
 .rw[BX];exact k4
 intro k hk;dsimp only
 by_cases e:k=i
 .subst e;rw[zF rfl];have n1:(Value.slice Aa k ca).ownBlock≠some rb:=fun e=>by have:=(la _ e).2;omega
  have n2:(Value.slice Ab k cb).ownBlock≠some rb:=fun e=>by have:=(lb _ e).2;omega
  refine⟨KQ ad k1 (af (by omega) n1 n2),fun e=>?_,fun e=>?_,by omega⟩
  .rcases k6 with c|⟨b,c,d⟩
   .exact n1 (c▸e)
   rw[c]at e;cases e;omega
  rcases k7 with c|⟨b,c,d⟩
  .exact n2 (c▸e)
  rw[c]at e;cases e;omega
 rw[zE e];obtain⟨r1,r2,r3,r4⟩:=ae k (by omega);have ag:=r1.lt;refine⟨KQ (r1.below hB ag) k1 (af r4 r2 r3),fun e=>?_,fun e=>?_,r4⟩
 .rcases k6 with c|⟨b,c,d⟩
  .exact r2 (c▸e)
  rw[c]at e;cases e;omega
 rcases k7 with c|⟨b,c,d⟩
 .exact r3 (c▸e)
 rw[c]at e;cases e;omega
theorem JX{s:SR}(h:Ak s=true):s.ps.length<=60:=by
 unfold Ak at h;simp only[zr,yC]at h;exact h.2.1
theorem Gx(k:Int)(q:Rat)(hq:(k:Rat)=q)(hk:-10<=k/\k<=10)(w:World)(hE:Env w):
 Calls prog 36 #[.int .i64 k] w fun e w'=>e=.returned (.agg #[.bool (rq (q)).1,.string (rq (q)).2.1,.string (rq (q)).2.2])/\Below w.heap.size w w':=by
 rw[<-hq];exact JQ k hk w hE
theorem Dl{s:SR}(d:Ak s=true){k:Nat}(hk:k<s.cap.length):∃(co ho:Nat)(part:Rat),s.cap[k]=((co:Int),(ho:Int),rq part)/\(Ag s.cap)[k]'(by unfold Ag;simpa using hk)=(co,ho,part)/\co<s.ps.length/\ho<s.ps.length:=by
 obtain⟨⟨h1,h2⟩,⟨h3,h4⟩,h5⟩:=Fq d (zO hk);have hv:=(Ht h5).1;have hr:=(FT (x:=lkP s.cap[k]) hv).1;refine⟨s.cap[k].1.toNat,s.cap[k].2.1.toNat,vq (lkP s.cap[k]),?_,by unfold Ag;rw[yJ],by omega,by omega⟩;rw[hr];have e1:((s.cap[k].1.toNat:Nat):Int)=s.cap[k].1:=by omega
 have e2:((s.cap[k].2.1.toNat:Nat):Int)=s.cap[k].2.1:=by omega
 rw[e1,e2];rfl
theorem Q9{D:Nat}(s:SR)(Ap Ac Av U:Option Addr)(cp cc cv cu:Nat)(u:List Nat)(val:Nat->Rat)(xb vb mb:Nat)(w:World)
 (aU:Ak s=true)(cf:s.cap.length<=300)(hm:u.length<=8)(hu:u.Nodup)(bR:∀p,p∈u->p<s.ps.length)(hv:Vals val D)
 (hx:Bk w xb 84 [.slice U u.length cu,.slice none 0 0,.slice none 0 0])
 (am:∀W,Kp [xb] w W->Env W)(bn:∀W,Kp [xb] w W->InLk W Ac s.cap)(a5:∀W,Kp [xb] w W->InInt W U (u.map fun(q:Nat)=>(q:Int)))(bi:∀W,Kp [xb] w W->VM W vb mb s.ps.length val):
 Calls prog 38 #[.pointer (some ⟨xb,0,none⟩),.agg #[.slice Ap s.ps.length cp,.slice Ac s.cap.length cc,.slice Av s.vot.length cv],.func (.func 37) #[] #[.pointer (some ⟨vb,0,none⟩)]] w fun e w'=>e=.returned (.tuple #[])/\∃w3,Kp [xb] w w3/\BdI w3 w' xb u.length u.length (.slice U u.length cu) (Bg (Ag s.cap) u val):=by
 have b7:=JX aU;have hL:=BY aU;have ci:=hx.lt;have bh:Hid (Kp [xb] w (w.alloc (.cells #[.slice Ap s.ps.length cp,.slice Ac s.cap.length cc,.slice Av s.vot.length cv] 32))):=(Kp.refl [xb] w).alloc _;have bN:Hid (Bk (w.alloc (.cells #[.slice Ap s.ps.length cp,.slice Ac s.cap.length cc,.slice Av s.vot.length cv] 32)) w.heap.size 32 (SC s Ap Ac Av cp cc cv)):=Bk.new w _ _;have aX:Hid (Bk (w.alloc (.cells #[.slice Ap s.ps.length cp,.slice Ac s.cap.length cc,.slice Av s.vot.length cv] 32)) xb 84 [.slice U u.length cu,.slice none 0 0,.slice none 0 0]):=hx.alloc _;have bU:=zh (fun W hW=>Gx (-1) (-1) (by decide +kernel) (by omega) W hW);have bp:=zh (fun W hW=>Gx 0 0 (by decide +kernel) (by omega) W hW);have bW:=zh (fun W hW=>Gx 1 1 (by decide +kernel) (by omega) W hW);have kix:Hid (∀W x,Kp [xb] w W->Calls prog 75 #[.slice U u.length cu,.int .i64 x] W fun e w'=>e=.returned (.int .i64 (Fz (u.map fun(q:Nat)=>(q:Int)) x))/\w'=W):=fun W x h=>by have:=GQ U cu _ x W (a5 W h) (by rw[zW];omega);rwa [zW]at this
 have kva:Hid (∀W (p:Nat),p<s.ps.length->Kp [xb] w W->Calls prog 37 #[.int .i64 (p:Int),.pointer (some ⟨vb,0,none⟩)] W fun e w'=>e=.returned (.agg #[.bool (rq (val p)).1,.string (rq (val p)).2.1,.string (rq (val p)).2.2])/\Below W.heap.size W w'):=fun W p hp h=>JU s.ps.length val vb mb p hp (by omega) W (am W h) (bi W h);have bH:=zh (fun k h=>Dl aU (k:=k) h);have aN:(Ag s.cap).length=s.cap.length:=by unfold Ag;rw[zW]
 have b6:Hid (∀i (h:i<u.length),u[i]<s.ps.length/\u.getD i 0=u[i]):=fun i h=>⟨bR _ (zO h),D1 h⟩;have a9:(u.map fun(q:Nat)=>(q:Int)).length=u.length:=zW ..;replace am:=zh am;replace bn:=zh bn;replace a5:=zh a5;replace bi:=zh bi;replace hL:=zh hL;replace hv:=zh hv;replace hu:=zh hu;replace aU:=zh aU;replace hx:=zh hx;replace aN:=zh aN;replace a9:=zh a9;clear bR;obtain⟨m,ap⟩:∃m,m=u.length:=⟨_,rfl⟩;have k1:=zh (bU.o (w.alloc (.cells #[.slice Ap s.ps.length cp,.slice Ac s.cap.length cc,.slice Av s.vot.length cv] 32)) (am.o _ bh.o));rw[<-ap]at hx aX hm kix ⊢;replace ap:=zh ap;have x0:=aX.o.c0;have x9:=aX.o.lt;go_enter func38,ntmps38
 go_wp2_with fail
 refine k1.o.q fun w2 hb=>?_;have bv:=zh (bh.o.below hb);have bk:=zh (bN.o.below hb);have bb:=zh (aX.o.below hb);clear hb k1 bU x0 x9 bh bN aX;obtain⟨w3,aq⟩:∃W,W=(w2.alloc (.cells #[.bool (rq (-1)).1,.string (rq (-1)).2.1,.string (rq (-1)).2.2] 48)):=⟨_,rfl⟩;obtain⟨mnb,aA⟩:∃x,x=w2.heap.size:=⟨_,rfl⟩;have bw:Hid (Kp [xb] w w3):=by rw[aq];exact bv.o.alloc _
 have bO:Hid (Bk w3 w.heap.size 32 (SC s Ap Ac Av cp cc cv)):=by rw[aq];exact bk.o.alloc _
 have bS:Hid (Bk w3 xb 84 [.slice U m cu,.slice none 0 0,.slice none 0 0]):=by rw[aq];exact bb.o.alloc _
 have bd:Hid (Bk w3 mnb 48 [.bool (rq (-1)).1,.string (rq (-1)).2.1,.string (rq (-1)).2.2]):=by rw[aq,aA];exact Bk.new _ _ _
 have bP:Hid (w2.heap.size<w3.heap.size/\w.heap.size<w2.heap.size):=⟨by rw[aq];simp,bk.o.lt⟩;have x0:=bb.o.c0;have x9:=bb.o.lt
 go_wp2_with fail
 (try rw[<-aq])
 (try rw[<-aA])
 replace aq:=zh aq;clear x0 x9 bv bk bb;have bu:Hid (BdI w3 w3 xb m 0 (.slice U m cu) (Bg (Ag s.cap) u val)):=BdI.start bS.o;have al:Hid (xb<w3.heap.size/\w.heap.size<w3.heap.size/\mnb<w3.heap.size/\mnb≠xb/\w.heap.size≠xb):=⟨bS.o.lt,bO.o.lt,bd.o.lt,by have:=bP.o;omega,by omega⟩;replace aA:=zh aA
 go_loopw [21] (fun ix wr=>∃(i:Nat),i<=m/\ix=.int .i64 (i:Int)/\Hid (BdI w3 wr xb m i (.slice U m cu) (Bg (Ag s.cap) u val))) (fun ix _=>m-(intOf ix).toNat)
 case atStart=>exact⟨0,zS _,rfl,bu⟩
 case round=>
  clear bu;obtain⟨i,hi,rfl,hI⟩:=hrel;obtain⟨wy,rfl⟩:∃z,z=wr:=⟨_,rfl⟩
  by_cases him:i<m
  rotate_left
  .obtain rfl:i=m:=by omega
   go_wp2
   (try simp only[Exit.inBlock,Exit.then])
   go_end0;exact⟨rfl,w3,bw.o,hI.o⟩
  obtain⟨Aa,Ab,ca,cb,bl,aj,aH,aQ,aR,bj,ax⟩:=hI.o;replace aj:=zh aj;replace aH:=zh aH;replace aQ:=zh aQ;replace aR:=zh aR;replace bj:=zh bj;replace ax:=zh ax;clear hI;have bF:i<u.length:=by rw[<-ap.o];exact him
  have bx:Hid (Kp [xb] w wy):=kp_trans bw.o aj.o (fun y hy=>.inl hy);have ao:=zh (fun W (h:Below wy.heap.size wy W)=>bx.o.below h);obtain⟨ub,uo,bZ,ch,bQ⟩:=(a5.o wy bx.o) (by rw[a9.o];omega);subst bZ;have e1:=bQ i (by rw[a9.o];omega);rw[yJ]at e1;obtain⟨b5,a7⟩:=b6.o i bF;obtain⟨p,hp⟩:∃p,p=u[i]'bF:=⟨_,rfl⟩;rw[<-hp]at e1 b5 a7;replace hp:=zh hp;clear bQ;have j0:(0:Int)<=(i:Int):=by omega
  have j1:(i:Int)<(m:Int):=by omega
  have x0:=aH.o.c0;have x9:=aH.o.lt;have b2:=FS 39 underlying39 m (by omega);obtain⟨rb,an⟩:∃x,x=wy.heap.size:=⟨_,rfl⟩;obtain⟨w5,aV⟩:∃W,W=(wy.alloc (.cells (AM m fun _=>zraw).toArray 48)):=⟨_,rfl⟩;have bq:Hid (Below wy.heap.size wy w5):=by rw[aV];exact(zI _ wy).alloc (zB _) _
  have bz:Hid (RowB w5 rb m fun j=>if j<0 then rq 0 else zraw):=by rw[aV,an];refine RowB.congr (r:=fun _=>zraw) (ym wy _) fun j _=>?_;rw[zE (yB _)]
  go_wp2_with fail
  (try rw[<-aV])
  (try rw[<-an])
  replace aV:=zh aV;replace an:=zh an;clear b2 x0 x9 e1
  go_loopw [34] (fun kx wr=>∃(k:Nat),k<=m/\kx=.int .i64 (k:Int)/\Hid (Below wy.heap.size wy wr)/\Hid (RowB wr rb m fun j=>if j<k then rq 0 else zraw)) (fun kx _=>m-(intOf kx).toNat)
  case atStart=>exact⟨0,zS _,rfl,bq,bz⟩
  case round=>
   clear bq bz;obtain⟨k,hk,rfl,aa,ak⟩:=hrel;obtain⟨wz,rfl⟩:∃z,z=wr:=⟨_,rfl⟩
   by_cases hkm:k<m
   .have k0:=zh (bp.o wz (am.o _ (ao.o _ aa.o)));have q0:(0:Int)<=(k:Int):=by omega
    have q1:(k:Int)<(m:Int):=by omega
    go_wp2_with fail
    refine k0.o.q fun w6 hb=>?_;have a0:Hid (Below wy.heap.size wy w6):=aa.o.trans (hb.mono aa.o.size);have ae:Hid (RowB w6 rb m fun j=>if j<k then rq 0 else zraw):=ak.o.below hb ak.o.lt;clear hb k0 aa ak;obtain⟨r1,r2,r3⟩:=ae.o.cell hkm;have f1:=ae.o.frozen (k*3);have f2:=ae.o.frozen (k*3+1);have f3:=ae.o.frozen (k*3+2);have r9:=ae.o.lt;have ay:Hid (wy.heap.size<=rb):=vP an.o.symm;have aB:Hid (Below wy.heap.size wy (((w6.setCell ⟨rb,k*3,none⟩ (.bool (rq (0)).1)).setCell ⟨rb,k*3+1,none⟩ (.string (rq (0)).2.1)).setCell ⟨rb,k*3+2,none⟩ (.string (rq (0)).2.2))):=((a0.o.setCell (p:=⟨rb,k*3,none⟩) ay.o _).setCell (p:=⟨rb,k*3+1,none⟩) ay.o _).setCell (p:=⟨rb,k*3+2,none⟩) ay.o _;have aL:Hid (RowB (((w6.setCell ⟨rb,k*3,none⟩ (.bool (rq (0)).1)).setCell ⟨rb,k*3+1,none⟩ (.string (rq (0)).2.1)).setCell ⟨rb,k*3+2,none⟩ (.string (rq (0)).2.2)) rb m fun j=>if j<k+1 then rq 0 else zraw):=(ae.o.set hkm (rq 0)).congr fun j _=>by by_cases c:j=k;(· rw[zF c,zF (by omega)]);(· rw[zE c];by_cases d:j<k;(· rw[zF d,zF (by omega)]);(· rw[zE d,zE (by omega)]))
    generalize (if k<k then rq 0 else zraw)=rz at r1 r2 r3;go_wp2;exact⟨⟨k+1,by omega,by go_num,aB,aL⟩,by simp only[intOf];omega⟩
   obtain rfl:k=m:=by omega
   have av:Hid (RowB wz rb k fun _=>rq 0):=ak.o.congr fun j hj=>by rw[zF hj]
   clear ak;have k2:=zh (bW.o wz (am.o _ (ao.o _ aa.o)))
   go_wp2_with fail
   refine k2.o.q fun w6 hb=>?_;have a0:Hid (Below wy.heap.size wy w6):=aa.o.trans (hb.mono aa.o.size);have ae:Hid (RowB w6 rb k fun _=>rq 0):=av.o.below hb av.o.lt;clear hb k2 bW aa av;obtain⟨r1,r2,r3⟩:=ae.o.cell him;have f1:=ae.o.frozen (i*3);have f2:=ae.o.frozen (i*3+1);have f3:=ae.o.frozen (i*3+2);have r9:=ae.o.lt;have ay:Hid (wy.heap.size<=rb):=vP an.o.symm;obtain⟨w7,aW⟩:∃W,W=(((w6.setCell ⟨rb,i*3,none⟩ (.bool (rq (1)).1)).setCell ⟨rb,i*3+1,none⟩ (.string (rq (1)).2.1)).setCell ⟨rb,i*3+2,none⟩ (.string (rq (1)).2.2)):=⟨_,rfl⟩;have aB:Hid (Below wy.heap.size wy w7):=by rw[aW];exact((a0.o.setCell (p:=⟨rb,i*3,none⟩) ay.o _).setCell (p:=⟨rb,i*3+1,none⟩) ay.o _).setCell (p:=⟨rb,i*3+2,none⟩) ay.o _
   have aL:Hid (RowB w7 rb k fun j=>rq (Ca (Ag s.cap) u i 0 j)):=by rw[aW];exact(ae.o.set him (rq 1)).congr fun j _=>by rw[Q6];by_cases c:j=i;(· rw[zF c,zF c.symm]);(· rw[zE c,zE (fun e=>c e.symm)])
   have k3:=zh (bp.o w7 (am.o _ (ao.o _ aB.o)))
   go_wp2_with fail
   (try rw[<-aW])
   replace aW:=zh aW;refine k3.o.q fun w8 hb=>?_;have a1:Hid (Below wy.heap.size wy w8):=aB.o.trans (hb.mono aB.o.size);have av:Hid (RowB w8 rb k fun j=>rq (Ca (Ag s.cap) u i 0 j)):=aL.o.below hb aL.o.lt;clear hb k3 a0 ae aB aL r1 r2 r3 f1 f2 f3 r9 bp;obtain⟨gb,aE⟩:∃x,x=w8.heap.size:=⟨_,rfl⟩;obtain⟨w9,az⟩:∃W,W=(w8.alloc (.cells #[.bool (rq (0)).1,.string (rq (0)).2.1,.string (rq (0)).2.2] 48)):=⟨_,rfl⟩;have bf:Hid (Below wy.heap.size wy w9):=by rw[az];exact a1.o.alloc a1.o.size _
   have bA:Hid (RowB w9 rb k fun j=>rq (Ca (Ag s.cap) u i 0 j)):=by rw[az];exact av.o.alloc _
   have br:Hid (Bk w9 gb 48 [.bool (rq (BA (Ag s.cap) u val i 0)).1,.string (rq (BA (Ag s.cap) u val i 0)).2.1,.string (rq (BA (Ag s.cap) u val i 0)).2.2]):=by rw[az,aE,Q7];exact Bk.new _ _ _
   have aG:Hid (rb<gb/\wy.heap.size<=gb):=⟨by rw[aE];exact av.o.lt,by rw[aE];exact a1.o.size⟩;have bm:=zh ((bO.o.kp aj.o (by have:=al.o;simp;omega)).below bf.o);have u1:=bm.o.c1;have u9:=bm.o.lt;rw[az]at u1 u9
   go_wp2_with fail
   (try rw[<-az])
   (try rw[<-aE])
   replace az:=zh az;replace aE:=zh aE;clear u1 u9 a1 av bm
   go_loopw [50] (fun kx wr=>∃(c:Nat),c<=s.cap.length/\kx=.int .i64 (c:Int)/\Hid (Below wy.heap.size wy wr)/\Hid (RowB wr rb k fun j=>rq (Ca (Ag s.cap) u i c j))/\Hid (Bk wr gb 48 [.bool (rq (BA (Ag s.cap) u val i c)).1,.string (rq (BA (Ag s.cap) u val i c)).2.1,.string (rq (BA (Ag s.cap) u val i c)).2.2])) (fun kx _=>s.cap.length-(intOf kx).toNat)
   case atStart=>exact⟨0,zS _,rfl,bf,bA,br⟩
   case round=>
    clear bf bA br;obtain⟨c,hc,rfl,aa,ak,a3⟩:=hrel;obtain⟨wz,rfl⟩:∃z,z=wr:=⟨_,rfl⟩
    by_cases hcl2:c<s.cap.length
    .obtain ⟨aZ,off,bX,cd,bE⟩:=(bn.o wz (ao.o _ aa.o)) (by omega);subst bX;obtain⟨e1,e2,e3,e4,e5⟩:=bE c hcl2;obtain⟨co,ho,part,aO,af,cg,b0⟩:=bH.o c hcl2;rw[aO]at e1 e2 e3 e4 e5;replace e1:wz.cell? ⟨aZ,off+c*5,none⟩=some (.int .i64 (co:Int)):=e1;replace e2:wz.cell? ⟨aZ,off+c*5+1,none⟩=some (.int .i64 (ho:Int)):=e2;replace e3:wz.cell? ⟨aZ,off+c*5+2,none⟩=some (.bool (rq part).1):=e3;replace e4:wz.cell? ⟨aZ,off+c*5+3,none⟩=some (.string (rq part).2.1):=e4;replace e5:wz.cell? ⟨aZ,off+c*5+4,none⟩=some (.string (rq part).2.2):=e5;have ag:c<(Ag s.cap).length:=by rw[aN.o];exact hcl2
     have aT:(Ag s.cap)[c].2.2=part:=by rw[af]
     have aS:=IH hL.o ag;have a6:=T7 hL.o ag;have b4:=zh (fun q=>T8 hL.o hv.o ag q);rw[aT]at aS a6;replace aS:=zh aS;replace a6:=zh a6;have bo:Hid (co≠p->(∀j,Ca (Ag s.cap) u i (c+1) j=Ca (Ag s.cap) u i c j)/\BA (Ag s.cap) u val i (c+1)=BA (Ag s.cap) u val i c):=fun b3=>T5 ag (by rw[af,a7];exact b3);have bG:Hid (co=p->∀t (ht:t<u.length),ho=u.getD t 0->(∀j,j<u.length->Ca (Ag s.cap) u i (c+1) j=if j=t then Ca (Ag s.cap) u i c t+-1*part else Ca (Ag s.cap) u i c j)/\BA (Ag s.cap) u val i (c+1)=BA (Ag s.cap) u val i c):=fun he t ht hh=>by have h:=Xj (val:=val) (i:=i) hu.o ag (by rw[af,a7];exact he) ht (by rw[af];exact hh);rwa [aT]at h
     have be:Hid (co=p->ho∉u->(∀j,j<u.length->Ca (Ag s.cap) u i (c+1) j=Ca (Ag s.cap) u i c j)/\BA (Ag s.cap) u val i (c+1)=BA (Ag s.cap) u val i c+part*val ho):=fun he hh=>by have h:=OZ (val:=val) (i:=i) ag (by rw[af,a7];exact he) (by rw[af];exact hh);rwa [af]at h
     replace aO:=zh aO;replace af:=zh af;replace aT:=zh aT;replace ag:=zh ag;clear bE;have c0:(0:Int)<=(c:Int):=by omega
     have c1:(c:Int)<(s.cap.length:Int):=by omega
     obtain⟨lb,aF⟩:∃x,x=wz.heap.size:=⟨_,rfl⟩;obtain⟨wa,ar⟩:∃W,W=(wz.alloc (.cells #[.int .i64 (co:Int),.int .i64 (ho:Int),.bool (rq part).1,.string (rq part).2.1,.string (rq part).2.2] 106)):=⟨_,rfl⟩;have aI:Hid (Below wy.heap.size wy wa):=by rw[ar];exact aa.o.alloc aa.o.size _
     have a4:Hid (RowB wa rb k fun j=>rq (Ca (Ag s.cap) u i c j)):=by rw[ar];exact ak.o.alloc _
     have a2:Hid (Bk wa gb 48 [.bool (rq (BA (Ag s.cap) u val i c)).1,.string (rq (BA (Ag s.cap) u val i c)).2.1,.string (rq (BA (Ag s.cap) u val i c)).2.2]):=by rw[ar];exact a3.o.alloc _
     have ah:Hid (Bk wa lb 106 [.int .i64 (co:Int),.int .i64 (ho:Int),.bool (rq part).1,.string (rq part).2.1,.string (rq part).2.2]):=by rw[ar,aF];exact Bk.new _ _ _
     have bJ:Hid (rb≠lb/\gb≠lb):=⟨by rw[aF];exact xK ak.o.lt,by rw[aF];exact xK a3.o.lt⟩;have y0:=ah.o.c0;have y1:=ah.o.c1;have y9:=ah.o.lt;rw[ar,aF]at y0 y1 y9
     by_cases hcp:co=p
     rotate_left
     .have t1:((co:Int) != (p:Int))=true:=by rw[zm];omega
      have ad:=bo.o hcp;have bB:Hid (RowB wa rb k fun j=>rq (Ca (Ag s.cap) u i (c+1) j)):=a4.o.congr fun j _=>by rw[ad.1 j]
      have bs:Hid (Bk wa gb 48 [.bool (rq (BA (Ag s.cap) u val i (c+1))).1,.string (rq (BA (Ag s.cap) u val i (c+1))).2.1,.string (rq (BA (Ag s.cap) u val i (c+1))).2.2]):=by rw[ad.2];exact a2.o
      replace hcp:=zh hcp;rw[ar]at aI bB bs;clear ad bo bG be a4 a2 ah;go_wp2;exact⟨⟨c+1,by omega,by go_num,aI,bB,bs⟩,by simp only[intOf];omega⟩
     have t1:((co:Int) != (p:Int))=false:=by rw[zq];omega
     have bc:=zh hcp;clear hcp;have aY:=zh (aH.o.below aI.o);clear bo y0 y1 y9;have y0:=ah.o.c0;have y9:=ah.o.lt;rw[ar,aF]at y0 y9
     go_wp2_with fail
     subst ar;subst aF;clear y0 y9;have b1:=zh (fun W (h:Below wy.heap.size wy W)=>ao.o W h);have ai:Hid (Below wy.heap.size wy (wz.alloc (.cells #[.int .i64 (co:Int),.int .i64 (ho:Int),.bool (rq part).1,.string (rq part).2.1,.string (rq part).2.2] 106)).drew):=aI.o.drew;have bD:Hid ((wz.alloc (.cells #[.int .i64 (co:Int),.int .i64 (ho:Int),.bool (rq part).1,.string (rq part).2.1,.string (rq part).2.2] 106)).drew.cell? ⟨xb,0,none⟩=some (.slice (some ⟨ub,uo,none⟩) k cu)/\(wz.alloc (.cells #[.int .i64 (co:Int),.int .i64 (ho:Int),.bool (rq part).1,.string (rq part).2.1,.string (rq part).2.2] 106)).drew.cell? ⟨wz.heap.size,1,none⟩=some (.int .i64 (ho:Int))):=⟨aY.o.c0,ah.o.c1⟩;have x0:=aY.o.c0;have x9:=aY.o.lt;have y1:=ah.o.c1;have y9:=ah.o.lt
     go_region_held3 (fun W=>W.cell? ⟨xb,0,none⟩=some (.slice (some ⟨ub,uo,none⟩) k cu)/\W.cell? ⟨wz.heap.size,1,none⟩=some (.int .i64 (ho:Int))) (first|(with_reducible exact bD.o)|(with_reducible exact⟨aY.o.c0,ah.o.c1⟩)|go_keep) (first|(go_at_call 75;refine(kix.o _ _ (b1.o _ ai.o)).q fun w7b hq=>?_;obtain rfl:=hq.symm))
     clear x0 x9 y1 y9 bD;have aM:Hid (RowB (wz.alloc (.cells #[.int .i64 (co:Int),.int .i64 (ho:Int),.bool (rq part).1,.string (rq part).2.1,.string (rq part).2.2] 106)).drew rb k fun j=>rq (Ca (Ag s.cap) u i c j)):=a4.o;have aJ:Hid (Bk (wz.alloc (.cells #[.int .i64 (co:Int),.int .i64 (ho:Int),.bool (rq part).1,.string (rq part).2.1,.string (rq part).2.2] 106)).drew gb 48 [.bool (rq (BA (Ag s.cap) u val i c)).1,.string (rq (BA (Ag s.cap) u val i c)).2.1,.string (rq (BA (Ag s.cap) u val i c)).2.2]):=a2.o;have aK:Hid (Bk (wz.alloc (.cells #[.int .i64 (co:Int),.int .i64 (ho:Int),.bool (rq part).1,.string (rq part).2.1,.string (rq part).2.2] 106)).drew wz.heap.size 106 [.int .i64 (co:Int),.int .i64 (ho:Int),.bool (rq part).1,.string (rq part).2.1,.string (rq part).2.2]):=ah.o;obtain⟨wd,ba⟩:∃W,W=(wz.alloc (.cells #[.int .i64 (co:Int),.int .i64 (ho:Int),.bool (rq part).1,.string (rq part).2.1,.string (rq part).2.2] 106)).drew:=⟨_,rfl⟩;rw[<-ba]at ai aM aJ aK
     (try rw[<-ba])
     replace ba:=zh ba;clear aI a4 a2 ah aY;have aP:Hid (Bk wd mnb 48 [.bool (rq (-1)).1,.string (rq (-1)).2.1,.string (rq (-1)).2.2]):=(bd.o.kp aj.o (by have:=al.o;simp;omega)).below ai.o;have bI:Hid (rb≠mnb):=fun e=>by have h1:=al.o;have h2:=aj.o.size;have h3:=an.o;omega
     by_cases hu1:ho∈u
     .obtain⟨t,ht,a8⟩:∃t,t<u.length/\ho=u.getD t 0:=⟨u.idxOf ho,List.idxOf_lt_length_iff.2 hu1,(Gu hu1).symm⟩;have aw:Fz (u.map fun(q:Nat)=>(q:Int)) (ho:Int)=(t:Int):=Yn hu.o ht a8;have ad:=bG.o bc.o t ht a8;rw[aw];rw[<-ap.o]at ht ad;replace ad:=zh ad;replace aw:=zh aw;replace hu1:=zh hu1;replace a8:=zh a8;have t2:decide ((0:Int)<=(t:Int))=true:=zG (by omega)
      go_wp2_with fail
      refine YK mnb rb wz.heap.size k t _ (Ca (Ag s.cap) u i c t) part _ _ wd (am.o _ (ao.o _ ai.o)) ht (by omega) aM.o rfl aP.o aK.o bI.o bJ.o.1 (IF hL.o) aS.o a6.o ?_;intro _ _ _ _ _ _ _ _ _ _ _ we bC au;have bg:Hid (Below wy.heap.size wy we):=au.o.to_below ai.o (fun x hx=>by have:=an.o;simp at hx;omega);have aD:Hid (RowB we rb k fun j=>rq (Ca (Ag s.cap) u i (c+1) j)):=bC.o.congr fun j hj=>by rw[ad.o.1 j hj];split<;>rfl
      have aC:Hid (Bk we gb 48 [.bool (rq (BA (Ag s.cap) u val i (c+1))).1,.string (rq (BA (Ag s.cap) u val i (c+1))).2.1,.string (rq (BA (Ag s.cap) u val i (c+1))).2.2]):=by rw[ad.o.2];exact aJ.o.kp au.o (by have:=aG.o;simp;omega)
      clear bC au aM aJ aK ai aP;go_wp2;exact⟨⟨c+1,by omega,by go_num,bg,aD,aC⟩,by simp only[intOf];omega⟩
     have aw:Fz (u.map fun(q:Nat)=>(q:Int)) (ho:Int)=-1:=Xk hu1;have ad:=be.o bc.o hu1;rw[aw];rw[<-ap.o]at ad;replace ad:=zh ad;replace aw:=zh aw;replace hu1:=zh hu1;have bL:=zh (b4.o ho);rw[aT.o]at bL
     go_wp2_with fail
     refine YL gb wz.heap.size vb (ho:Int) (BA (Ag s.cap) u val i c) part (val ho) _ wd (am.o _ (ao.o _ ai.o)) aJ.o aK.o bJ.o.2 (IG hL.o hv.o) aS.o (hv.o.short ho) bL.o (fun W hW=>kva.o W ho b0 (ao.o _ (ai.o.trans (hW.mono ai.o.size)))) ?_;intro _ _ _ _ _ _ _ _ we bt au;have bg:Hid (Below wy.heap.size wy we):=au.o.to_below ai.o (fun x hx=>by have:=aG.o;simp at hx;omega);have aD:Hid (RowB we rb k fun j=>rq (Ca (Ag s.cap) u i (c+1) j)):=(KQ aM.o au.o (by have:=aG.o;simp;omega)).congr fun j hj=>by rw[ad.o.1 j hj]
     have aC:Hid (Bk we gb 48 [.bool (rq (BA (Ag s.cap) u val i (c+1))).1,.string (rq (BA (Ag s.cap) u val i (c+1))).2.1,.string (rq (BA (Ag s.cap) u val i (c+1))).2.2]):=by rw[ad.o.2];exact bt.o
     clear bt au aM aJ aK ai aP;go_wp2;exact⟨⟨c+1,by omega,by go_num,bg,aD,aC⟩,by simp only[intOf];omega⟩
    obtain rfl:c=s.cap.length:=by omega
    have aD:Hid (RowB wz rb k fun j=>rq (Bg (Ag s.cap) u val i j)):=ak.o.congr fun j hj=>by rw[<-aN.o,Mf (val:=val) (by rw[<-ap.o];exact hj)]
    have aC:Hid (Bk wz gb 48 [.bool (rq (Bg (Ag s.cap) u val i k)).1,.string (rq (Bg (Ag s.cap) u val i k)).2.1,.string (rq (Bg (Ag s.cap) u val i k)).2.2]):=by have h:=a3.o;rw[<-aN.o,Mg,<-ap.o]at h;exact h
    have bT:=zh (aH.o.below aa.o);have bK:=zh (AC aQ.o aa.o);have bM:=zh (AC aR.o aa.o);clear ak a3 bH kix kva
    go_wp2_with fail
    refine YM xb gb rb k i ca cb w3.heap.size Aa Ab _ _ _ (rq (Bg (Ag s.cap) u val i k)) wz (by omega) bT.o aC.o (by have h1:=al.o;have h2:=aj.o.size;have h3:=aG.o;omega) (zQ aj.o.size aa.o.size) al.o.1 bK.o bM.o bj.o (fun e=>by have h1:=(aQ.o.lt _ e).2;have h3:=aG.o;omega) (fun e=>by have h1:=(aR.o.lt _ e).2;have h3:=aG.o;omega) ?_;intro _ _ _ _ _ _ _ _ _ _ _ _ _ _ _ _ _ _ _ _ Aa2 Ab2 b8 b9 we k1 k2 k3 k4 k5 k6 k7;have bY:Hid (BdI w3 we xb k (i+1) (.slice (some ⟨ub,uo,none⟩) k cu) (Bg (Ag s.cap) u val)):=BdI.step aj.o aQ.o aR.o ax.o aa.o an.o (by have h1:=al.o;have h2:=aj.o.size;omega) aD.o k1.o k2.o k3.o k4.o k5.o k6.o k7.o;clear k1 k2 k3 k4 k5 k6 k7 bT bK bM aD aC aa;go_wp2;exact⟨⟨i+1,by omega,by go_num,bY⟩,by simp only[intOf];omega⟩
theorem II{n D:Nat}{L:List Lp}{u:List Nat}{val:Nat->Rat}(hL:Caps n L)(hv:Vals val D){i j:Nat}(hj:j<=u.length):ShortQ (Bg L u val i j):=by
 by_cases e:j=u.length
 .rw[e,<-Mg];exact IG hL hv
 rw[<-Mf (val:=val) (by omega:j<u.length)];exact IF hL
theorem IJ{W:World}{b n:Nat}{f:Nat->Rat}(h:RowB W b n fun j=>rq (f j)):InRow W (some ⟨b,0,none⟩) (B9 n f):=fun _=>⟨b,0,rfl,h.lt,fun j hj=>by
 have d:j<n:=by rwa [Au]at hj
 obtain⟨c1,c2,c3⟩:=h.cell d;rw[BN];rw[yS];exact⟨c1,c2,c3⟩⟩
theorem BdI.slv{n D:Nat}{w W:World}{xb:Nat}{uv:Value}{L:List Lp}{u:List Nat}{val:Nat->Rat}(h:BdI w W xb u.length u.length uv (Bg L u val))(hL:Caps n L)(hv:Vals val D)(h8:u.length<=8):
 ∃(Aa Ab:Option Addr)(ca cb:Nat)(la:List RowH),Kp [xb] w W/\Bk W xb 84 [uv,.slice Aa u.length ca,.slice Ab u.length cb]/\la.length=u.length/\SysIn W Aa Ab la (F0 L u val)/\B8 la=CZ L u val:=by
 obtain⟨Aa,Ab,ca,cb,bl,hK,hx,af,ag,ah,aa⟩:=h
 let la:List RowH:=(List.range u.length).map fun k=>((some ⟨bl k,0,none⟩:Option Addr),u.length,B9 u.length (Bg L u val k))
 have d:la.length=u.length:=by simp[la]
 have ad:∀x∈la,∃k,k<u.length/\x=((some ⟨bl k,0,none⟩:Option Addr),u.length,B9 u.length (Bg L u val k)):=fun x hx=>by
  obtain⟨k,hk,rfl⟩:=List.mem_map.1 hx;exact⟨k,List.mem_range.1 hk,rfl⟩
 have ae:(List.range u.length).map (fun k=>Value.slice (some ⟨bl k,0,none⟩) u.length u.length)=la.map hdr:=by
  simp only[la,xz];refine xi fun k _=>?_;simp[hdr,Au]
 obtain ⟨A1,c1,e1,hM⟩:=inMat_of_own (L:=la) (v:=.slice Aa u.length ca) (by rw[<-ae,d];exact af) (fun x hx=>by
  obtain⟨k,hk,rfl⟩:=ad x hx;exact IJ (aa k hk).1)
 obtain⟨A2,c2,e2,hR⟩:=Gn ag;rw[d]at e1;injection e1 with q1 _ _;injection e2 with q2 _ _;subst q1;subst q2;refine⟨Aa,Ab,ca,cb,la,hK,hx,d,⟨hM,hR,by omega,by rw[show (F0 L u val).length=u.length from Au _ _];omega,fun x hx=>?_,fun x hx=>?_⟩,?_⟩
 .obtain⟨k,hk,rfl⟩:=ad x hx;refine⟨by show (B9 _ _).length<=_;rw[Au];omega,fun y hy=>?_⟩;obtain⟨j,hj,rfl⟩:=List.mem_map.1 (show y∈B9 u.length (Bg L u val k) from hy);exact LN (II hL hv (xF (List.mem_range.1 hj))).ok
 .obtain⟨j,hj,rfl⟩:=List.mem_map.1 (show x∈B9 u.length (fun i=>Bg L u val i u.length) from hx);exact LN (II hL hv (zB _)).ok
 simp[B8,la,CZ,List.map_map]
theorem VE{n D:Nat}{L:List Lp}{F done u:List Nat}{val:Nat->Rat}(hL:Caps n L)(hi:Inv L F done val D)(hx:Nxt L F done u)(d:done.length+u.length<=16)(h8:u.length<=8)
 {W:World}{Aa Ab:Option Addr}{ca cb:Nat}{la:List RowH}(hE:Env W)(hl:la.length=u.length)(hs:SysIn W Aa Ab la (F0 L u val))(hr:B8 la=CZ L u val):
 Calls prog 39 #[.slice Aa u.length ca,.slice Ab u.length cb] W fun e w'=>(∃p c,e=.returned (.tuple #[.slice p u.length c,.int .i64 0])/\InRow w' p (B9 u.length fun i=>Cx SQ L u val (u.getD i 0)))/\Below W.heap.size W w':=by
 have h:=V5 Aa Ab ca cb la (F0 L u val) W hE hs;have hb:(F0 L u val).length=u.length:=Au _ _;rw[hr,Me hL hi hx d h8,hl,hb]at h;refine h.mono fun e w' ⟨⟨p,c,e1,e2⟩,hB⟩=>⟨⟨p,c,?_,e2⟩,hB⟩;rw[e1]
 show Ending.returned (.tuple #[.slice p (B9 u.length _).length c,.int .i64 0])=_
 rw[Au]
end Sh
end
section
open Go.RowKit Go.Shelf
attribute [local go_sem] wG
namespace Bd
open Nt Ci Sh
theorem GR{B:Nat}{W A:World}{row:Option Nat}{b:Nat}{t:TypeId}{cs:List Value}(h:Bk W b t cs)(hg:W.grownBy A row)(hr:∀r,row=some r->B<=r/\∃o:Obj,W.heap[r]? = some o/\o.isCells=false):Bk A b t cs :=
 h.grown hg fun e=>by
  obtain⟨_,o,ho,hn⟩:=hr b e.symm;rw[show W.heap[b]? = some (.cells cs.toArray t (0,0)) from h]at ho
  cases ho;cases hn
def DK(L:List Lp)(val:Nat->Rat)(i:Nat):Rat:=(L.getD i (0,0,0)).2.2*val (L.getD i (0,0,0)).2.1
def E5{n:Nat}(L:List Lp)(val:Nat->Rat)(pre:List (EF n)):Rat:=pre.foldl (fun a i=>a+DK L val i.1) 0
theorem GS{n:Nat}(L:List Lp)(val:Nat->Rat)(pre:List (EF n))(x:EF n):E5 L val (pre++[x])=E5 L val pre+DK L val x.1:=by
 unfold E5;rw[vr];rfl
theorem GT{s:SR}(aa:Ak s=true)(val:Nat->Rat)(p:Nat):∀k,k<=s.cap.length->E5 (Ag s.cap) val (DT (p:Int) s.cap k)=Ao p val ((Ag s.cap).take k)
 |0,_=>by rw[va];rfl
 |k + 1,hk=>by
  have ad:(Ag s.cap).length=s.cap.length:=by unfold Ag;rw[zW]
  obtain⟨co,ho,part,af,h,ah,ai⟩:=Dl aa (k:=k) (by omega);have ag:=CF (p:=p) (f:=val) (l:=Ag s.cap) (k:=k) (by rw[ad];omega);have d:=JP (p:Int) s.cap (k:=k) (by omega);rw[af]at d;dsimp only at d;rw[ag,h,d];have ih:=GT aa val p k (by omega);dsimp only
  by_cases c:co=p
  .have ae:k<(Ag s.cap).length:=by omega
   have ht:DK (Ag s.cap) val k=part*val ho:=by
    unfold DK;rw[yH,ze ae,h];rfl
   rw[zF c,zF (by omega),GS,ih];exact congrArg (Ao p val ((Ag s.cap).take k)+·) ht
  rw[zE c,zE (by omega),xV,ih,ww]
theorem Mh(s:SR)(Ap Ac Av Aw Ar:Option Addr)(cp cc cv cw cr nr:Nat)(ab:Bool)(sb qb p:Nat)(val:Nat->Rat)(w:World)(hE:Env w)(hc:InLk w Ac s.cap)(az:Ak s=true)(a5:s.cap.length<=300)
 (hv:InRow w Aw (B9 s.ps.length val))(aC:∀q,q<s.ps.length->ShortQ (val q))(ay:∀i,i<s.cap.length->ShortQ (DK (Ag s.cap) val i))(aA:∀pre:List (EF s.cap.length),pre.length<=s.cap.length->ShortQ (E5 (Ag s.cap) val pre))
 (hS:Bk w sb 32 [.slice Ap s.ps.length cp,.slice Ac s.cap.length cc,.slice Av s.vot.length cv])(hQ:Bk w qb 53 [.bool ab,.slice Aw s.ps.length cw,.slice Ar nr cr]):
 Calls prog 49 #[.int .i64 (p:Int),.pointer (some ⟨sb,0,none⟩),.pointer (some ⟨qb,0,none⟩)] w fun e w'=>e=.returned (.agg #[.bool (rq (Ao p val (Ag s.cap))).1,.string (rq (Ao p val (Ag s.cap))).2.1,.string (rq (Ao p val (Ag s.cap))).2.2])/\Below w.heap.size w w':=by
 have hL:=BY az;have u0:=hS.c0;have u1:=hS.c1;have u2:=hS.c2;have u9:=hS.lt;have kh:=zh (fun W=>Hm s Ap Ac Av cp cc cv (p:Int) W);have aL:Hid (([.bool false,.string ⟨#[48]⟩,.string ⟨#[49]⟩]:List Value)=[.bool (rq (0)).1,.string (rq (0)).2.1,.string (rq (0)).2.2]):=zh (by kernel_rfl);obtain⟨w1,ag⟩:∃W,W=(((w.alloc (.cells #[.bool false,.string ⟨#[]⟩,.string ⟨#[]⟩] 48)).alloc (.cells #[.bool false,.string ⟨#[48]⟩,.string ⟨#[49]⟩] 48)).alloc (.cells #[.slice Ap s.ps.length cp,.slice Ac s.cap.length cc,.slice Av s.vot.length cv] 32)).alloc (.cells #[.int .i64 (p:Int)] 3):=⟨_,rfl⟩;have a8:w1.heap.size=w.heap.size+4:=by rw[ag];simp
 have aD:Hid (Below w.heap.size w w1):=by rw[ag];exact((((zI _ w).alloc (zB _) _).alloc (by simp) _).alloc (by simp;omega) _).alloc (by simp;omega) _
 have aO:Hid (Bk w1 w.heap.size 48 [.bool false,.string ⟨#[]⟩,.string ⟨#[]⟩]):=by rw[ag];exact(((Bk.new w _ _).alloc _).alloc _).alloc _
 have aS:Hid (Bk w1 (w.heap.size+1) 48 [.bool (rq (0)).1,.string (rq (0)).2.1,.string (rq (0)).2.2]):=by
  rw[ag,<-aL.o];have h:=Bk.new (w.alloc (.cells #[.bool false,.string ⟨#[]⟩,.string ⟨#[]⟩] 48)) 48 [.bool false,.string ⟨#[48]⟩,.string ⟨#[49]⟩];rw[zV]at h;exact(h.alloc _).alloc _
 have aQ:Hid (Bk w1 (w.heap.size+1+1) 32 [.slice Ap s.ps.length cp,.slice Ac s.cap.length cc,.slice Av s.vot.length cv]):=by
  rw[ag];have h:=Bk.new ((w.alloc (.cells #[.bool false,.string ⟨#[]⟩,.string ⟨#[]⟩] 48)).alloc (.cells #[.bool false,.string ⟨#[48]⟩,.string ⟨#[49]⟩] 48)) 32 [.slice Ap s.ps.length cp,.slice Ac s.cap.length cc,.slice Av s.vot.length cv];rw[zV,zV]at h;exact h.alloc _
 have aF:Hid (Bk w1 (w.heap.size+1+1+1) 3 [.int .i64 (p:Int)]):=by
  rw[ag];have h:=(Bk.new (((w.alloc (.cells #[.bool false,.string ⟨#[]⟩,.string ⟨#[]⟩] 48)).alloc (.cells #[.bool false,.string ⟨#[48]⟩,.string ⟨#[49]⟩] 48)).alloc (.cells #[.slice Ap s.ps.length cp,.slice Ac s.cap.length cc,.slice Av s.vot.length cv] 32)) 3 [.int .i64 (p:Int)]);rw[zV,zV,zV]at h;exact h
 have aN:Hid (w1.cell? ⟨w.heap.size+1+1+1,0,none⟩=some (.int .i64 (p:Int))):=aF.o.c0;have aT:Hid (InLk w1 Ac s.cap):=hc.below aD.o
 have aU:Hid (0<s.cap.length->∀b o,Ac=some ⟨b,o,none⟩->b<w.heap.size):=fun h0 b o e=>by
  obtain⟨b',o',e',hl,_⟩:=hc h0;rw[e]at e';cases e';exact hl
 replace hE:=zh hE;replace hc:=zh hc;replace hv:=zh hv;replace aC:=zh aC;replace ay:=zh ay;replace aA:=zh aA;replace hS:=zh hS;replace hQ:=zh hQ;replace hL:=zh hL;refine(wJ (n:=3)).1 ?_;refine xW func49 rfl trivial ?_ rfl;simp only[ntmps49,yq,zZ,yR,Nat.reduceAdd,Nat.reduceSub,yW,yX,yv,yj,yM,yY];refine wpIn_wide.2 ?_
 go_wp2_with fail
 refine(kh.o _).mono ?_;rintro e w2 ⟨rfl,rfl⟩
 go_wp2_with fail
 rw[<-ag];replace ag:=zh ag;clear u0 u1 u2 u9 kh;refine(wpIn_wide (n:=3)).1 ?_
 refine wpIn_rangeFunc_ownH (F:=Fence.wide) rfl (by decide) (gf:=101) (lb:=#[.pointer (some ⟨w.heap.size+1+1,0,none⟩),.pointer (some ⟨w.heap.size+1+1+1,0,none⟩)]) rfl trivial (enters_of func101 (by kernel_rfl) rfl)
  (FC Fence.wide 2 trivial rfl (by decide) s Ap Ac Av cp cc cv (w.heap.size+1+1) (w.heap.size+1+1+1) w.heap.size (p:Int) w1 aT.o (by omega) (by omega) aU.o (by omega) aQ.o aN.o) (fun h k=>Kq.trans h k) (Yj (by omega) (by omega)) (zI _ _) (fun _=>rfl)
  (fun pre W=>(Bk W (w.heap.size+1) 48 [.bool (rq (E5 (Ag s.cap) val pre)).1,.string (rq (E5 (Ag s.cap) val pre)).2.1,.string (rq (E5 (Ag s.cap) val pre)).2.2]/\Bk W w.heap.size 48 [.bool false,.string ⟨#[]⟩,.string ⟨#[]⟩]/\Bk W (w.heap.size+1+1+1) 3 [.int .i64 (p:Int)])/\Below w.heap.size w W)
  (fun _ _ _=>False)
  (OwnFrom.and (fun _ _ _ _ hs hg hr=>⟨GR hs.1 hg hr,GR hs.2.1 hg hr,GR hs.2.2 hg hr⟩) (ownFrom_below (zB _) (by omega)))
  (fun _ _ _ _ _ hs _ _=>hs)
  ⟨⟨aS.o,aO.o,aF.o⟩,aD.o⟩
  (fun x a' W=>∃Bx,w.heap.size+1+1+1<Bx/\Bk W Bx 106 [.int .i64 (s.cap[x.1]'x.2).1,.int .i64 (s.cap[x.1]'x.2).2.1,.bool (s.cap[x.1]'x.2).2.2.1,.string (s.cap[x.1]'x.2).2.2.2.1,.string (s.cap[x.1]'x.2).2.2.2.2]/\a'={ tmps:=#[.int .i64 (p:Int),.pointer (some ⟨sb,0,none⟩),.pointer (some ⟨qb,0,none⟩),undef,.pointer (some ⟨w.heap.size,0,none⟩),.pointer (some ⟨w.heap.size+1,0,none⟩),.pointer (some ⟨Bx,0,none⟩),undef,undef,.agg #[.bool false,.string ⟨#[48]⟩,.string ⟨#[49]⟩],.agg #[.slice Ap s.ps.length cp,.slice Ac s.cap.length cc,.slice Av s.vot.length cv],.int .i64 (p:Int),.func (.func 101) #[] #[.pointer (some ⟨w.heap.size+1+1,0,none⟩),.pointer (some ⟨w.heap.size+1+1+1,0,none⟩)],lkV (s.cap[x.1]'x.2),undef,undef,undef,undef,undef,undef,undef,undef,undef,undef,undef,undef,undef,undef,undef,undef,undef,undef,undef],defers:=[] })
  (fun x a' _ X Y row hs hg hr=>by obtain⟨Bx,h1,h2,h3⟩:=hs;exact⟨Bx,h1,GR h2 hg hr,h3⟩)
  ?assign ?body ?done ?stop
 case assign=>
  rintro l pre x W K ⟨⟨bT,bR,bP⟩,hB⟩ hK;have ai:=hB.size;have hP:=bP.lt;unfold lkV
  gi_wp2
  exact hK _ _ ((KeepsOthers.alloc _ _).from _) ((Kq.refl W).alloc ai hP _) ⟨⟨bT.alloc _,bR.alloc _,bP.alloc _⟩,hB.alloc ai _⟩ ⟨W.heap.size,by omega,Bk.new W _ _,rfl⟩
 case body=>
  rintro l pre x a' W hl ⟨r,hr⟩ ⟨⟨bT,bR,bP⟩,hB⟩ ⟨Bx,a4,bX,rfl⟩ a7;obtain⟨i,hi⟩:=x;obtain⟨co,ho,part,ax,ar,a6,aV⟩:=Dl az (k:=i) hi;dsimp only at bX ⊢;have aI:(Ag s.cap).length=s.cap.length:=by unfold Ag;rw[zW]
  have au:=IH hL.o (k:=i) (by rw[aI];exact hi);rw[ar]at au;dsimp only at au;have af:DK (Ag s.cap) val i=part*val ho:=by unfold DK;rw[yH,ze (by rw[aI];exact hi),ar];rfl
  have ao:=GS (Ag s.cap) val pre (⟨i,hi⟩:EF s.cap.length);dsimp only at ao;rw[af]at ao;have aB:=ay.o i hi;rw[af]at aB;have aJ:=aA.o pre (by omega);rw[ax]at bX ⊢;dsimp only at bX;have ai:=hB.size;have aG:=bP.lt;have bQ:=hQ.o.below hB;obtain⟨vb,vo,rfl,av,aK⟩:=(hv.o.below hB (zB _)) (by rw[Au];omega);obtain⟨v0,v1,v2⟩:=aK ho (by rw[Au];omega);rw[BN]at v0 v1 v2;clear aK;have q4:(0:Int)<=(ho:Int):=by omega
  have q5:(ho:Int)<(s.ps.length:Int):=by omega
  have al:Hid (∀W2,Below W.heap.size W W2->Env W2):=fun W2 h=>hE.o.below (hB.trans (h.mono ai));have km:Hid (∀W2,Env W2->Calls prog 51 #[.agg #[.bool (rq (part)).1,.string (rq (part)).2.1,.string (rq (part)).2.2],.agg #[.bool (rq (val ho)).1,.string (rq (val ho)).2.1,.string (rq (val ho)).2.2]] W2 fun e w'=>e=.returned (.tuple #[.agg #[.bool (rq (part*val ho)).1,.string (rq (part*val ho)).2.1,.string (rq (part*val ho)).2.2],.int .i64 0])/\Below W2.heap.size W2 w'):=fun W2 hW=>Fl part (val ho) au (aC.o ho aV) W2 hW;have ka:Hid (∀W2,Env W2->Calls prog 52 #[.agg #[.bool (rq (E5 (Ag s.cap) val pre)).1,.string (rq (E5 (Ag s.cap) val pre)).2.1,.string (rq (E5 (Ag s.cap) val pre)).2.2],.agg #[.bool (rq (part*val ho)).1,.string (rq (part*val ho)).2.1,.string (rq (part*val ho)).2.2]] W2 fun e w'=>e=.returned (.tuple #[.agg #[.bool (rq (E5 (Ag s.cap) val (pre++[⟨i,hi⟩]))).1,.string (rq (E5 (Ag s.cap) val (pre++[⟨i,hi⟩]))).2.1,.string (rq (E5 (Ag s.cap) val (pre++[⟨i,hi⟩]))).2.2],.int .i64 0])/\Below W2.heap.size W2 w'):=fun W2 hW=>by rw[ao];exact GE _ _ aJ aB W2 hW
  have HS:Hid (∀W2,Below W.heap.size W W2->(fun W=>W.cell? ⟨Bx,1,none⟩=some (.int .i64 (ho:Int))/\W.cell? ⟨Bx,2,none⟩=some (.bool (rq (part)).1)/\W.cell? ⟨Bx,3,none⟩=some (.string (rq (part)).2.1)/\W.cell? ⟨Bx,4,none⟩=some (.string (rq (part)).2.2)/\W.cell? ⟨qb,1,none⟩=some (.slice (some ⟨vb,vo,none⟩) s.ps.length cw)/\W.cell? ⟨vb,vo+ho*3,none⟩=some (.bool (rq (val ho)).1)/\W.cell? ⟨vb,vo+ho*3+1,none⟩=some (.string (rq (val ho)).2.1)/\W.cell? ⟨vb,vo+ho*3+2,none⟩=some (.string (rq (val ho)).2.2)) W2):=fun W2 h=>⟨(bX.below h).c1,(bX.below h).c2,(bX.below h).c3,(bX.below h).c4,(bQ.below h).c1,(h.cell (p:=⟨vb,vo+ho*3,none⟩) av).trans v0,(h.cell (p:=⟨vb,vo+ho*3+1,none⟩) av).trans v1,(h.cell (p:=⟨vb,vo+ho*3+2,none⟩) av).trans v2⟩;have hD:Hid (Below W.heap.size W W.drew):=(zI _ _).drew;have aa:Hid (W.heap.size<=W.heap.size):=zB _;replace hB:=zh hB;replace bT:=zh bT;replace bR:=zh bR;replace bP:=zh bP;replace af:=zh af;replace ao:=zh ao;replace ar:=zh ar;replace ax:=zh ax;replace hr:=zh hr;clear bX bQ v0 v1 v2 av au aB aJ
  gi_wp2
  refine Gp (S:=fun W=>W.cell? ⟨Bx,1,none⟩=some (.int .i64 (ho:Int))/\W.cell? ⟨Bx,2,none⟩=some (.bool (rq (part)).1)/\W.cell? ⟨Bx,3,none⟩=some (.string (rq (part)).2.1)/\W.cell? ⟨Bx,4,none⟩=some (.string (rq (part)).2.2)/\W.cell? ⟨qb,1,none⟩=some (.slice (some ⟨vb,vo,none⟩) s.ps.length cw)/\W.cell? ⟨vb,vo+ho*3,none⟩=some (.bool (rq (val ho)).1)/\W.cell? ⟨vb,vo+ho*3+1,none⟩=some (.string (rq (val ho)).2.1)/\W.cell? ⟨vb,vo+ho*3+2,none⟩=some (.string (rq (val ho)).2.2)) (by kernel_rfl) (by kernel_rfl) (fun⟨_,_,h⟩=>h) (HS.o _ hD.o) (fun aH=>?_);refine Bz (i:=0) (by kernel_rfl) (by kernel_rfl) (by kernel_rfl) (by rfl) (by assumption) (fun oi ho=>?_);simp only[yL,zz,Option.some.injEq]at ho;subst ho;refine⟨?_,fun _ _ _ h=>h,.inl ⟨by rfl,fun W d=>?_⟩,?_⟩;rotate_left
  . (obtain⟨q1,q2,q3,q4,q5,q6,q7,q8⟩:=d;go_simp<;>with_reducible rfl)
  simp only[Act.put,zA,zD,zC];refine Bz (i:=1) (by kernel_rfl) (by kernel_rfl) (by kernel_rfl) (by rfl) (by assumption) (fun oi ho=>?_);simp only[yL,yG,zz,Option.some.injEq]at ho;subst ho;refine⟨?_,fun _ _ _ h=>h,.inl ⟨by rfl,fun W d=>?_⟩,?_⟩;rotate_left
  . (obtain⟨q1,q2,q3,q4,q5,q6,q7,q8⟩:=d;go_simp<;>with_reducible rfl)
  simp only[Act.put,zA,zD,zC];refine Bz (i:=2) (by kernel_rfl) (by kernel_rfl) (by kernel_rfl) (by rfl) (by assumption) (fun oi ho=>?_);simp only[yL,yG,zz,Option.some.injEq]at ho;subst ho;refine⟨?_,fun _ _ _ h=>h,.inl ⟨by rfl,fun W d=>?_⟩,?_⟩;rotate_left
  . (obtain⟨q1,q2,q3,q4,q5,q6,q7,q8⟩:=d;go_simp<;>with_reducible rfl)
  simp only[Act.put,zA,zD,zC];refine Bz (i:=3) (by kernel_rfl) (by kernel_rfl) (by kernel_rfl) (by rfl) (by assumption) (fun oi ho=>?_);simp only[yL,yG,zz,Option.some.injEq]at ho;subst ho;refine⟨?_,fun _ _ _ h=>h,.inl ⟨by rfl,fun W d=>?_⟩,?_⟩;rotate_left
  . (obtain⟨q1,q2,q3,q4,q5,q6,q7,q8⟩:=d;go_simp<;>with_reducible rfl)
  simp only[Act.put,zA,zD,zC];refine Bz (i:=4) (by kernel_rfl) (by kernel_rfl) (by kernel_rfl) (by rfl) (by assumption) (fun oi ho=>?_);simp only[yL,yG,zz,Option.some.injEq]at ho;subst ho;refine⟨?_,fun _ _ _ h=>h,.inl ⟨by rfl,fun W d=>?_⟩,?_⟩;rotate_left
  . (obtain⟨q1,q2,q3,q4,q5,q6,q7,q8⟩:=d;go_simp<;>with_reducible rfl)
  simp only[Act.put,zA,zD,zC];refine Bz (i:=5) (by kernel_rfl) (by kernel_rfl) (by kernel_rfl) (by rfl) (by assumption) (fun oi ho=>?_);simp only[yL,yG,zz,Option.some.injEq]at ho;subst ho;refine⟨?_,fun _ _ _ h=>h,.inl ⟨by rfl,fun W d=>?_⟩,?_⟩;rotate_left
  . (obtain⟨q1,q2,q3,q4,q5,q6,q7,q8⟩:=d;go_simp<;>with_reducible rfl)
  simp only[Act.put,zA,zD,zC];refine Bz (i:=6) (by kernel_rfl) (by kernel_rfl) (by kernel_rfl) (by rfl) (by assumption) (fun oi ho=>?_);simp only[yL,yG,zz,Option.some.injEq]at ho;subst ho;refine⟨?_,fun _ _ _ h=>h,.inl ⟨by rfl,fun W d=>?_⟩,?_⟩;rotate_left
  . (obtain⟨q1,q2,q3,q4,q5,q6,q7,q8⟩:=d;go_simp<;>with_reducible rfl)
  simp only[Act.put,zA,zD,zC];refine Bz (i:=7) (by kernel_rfl) (by kernel_rfl) (by kernel_rfl) (by rfl) (by assumption) (fun oi ho=>?_);simp only[yL,yG,zz,Option.some.injEq]at ho;subst ho;refine⟨?_,fun _ _ _ h=>h,.inl ⟨by rfl,fun W d=>?_⟩,?_⟩;rotate_left
  . (obtain⟨q1,q2,q3,q4,q5,q6,q7,q8⟩:=d;go_simp<;>with_reducible rfl)
  simp only[Act.put,zA,zD,zC];refine zT (rs:=[8,12]) (by kernel_rfl) (by simp) ?_;refine zK (o:=_) rfl (fun K hK=>?_) (zK (o:=_) rfl (fun K hK=>?_) zR)
  .go_simp;refine(km.o _ (al.o _ hD.o)).q fun w8 hb=>?_;have h8:=hD.t hb;clear hb km;refine hK.o _ _ (HS.o _ h8.o) (fun ap=>?_)
   (try simp only[Act.put,zA,zD,zC])
   clear aH;refine Bz (i:=9) (by kernel_rfl) (by kernel_rfl) (by kernel_rfl) (by rfl) (by assumption) (fun oi ho=>?_);simp only[yL,yG,zz,Option.some.injEq]at ho;subst ho;refine⟨?_,fun _ _ _ h=>h,.inl ⟨by rfl,fun W d=>?_⟩,?_⟩;rotate_left
   . (obtain⟨q1,q2,q3,q4,q5,q6,q7,q8⟩:=d;go_simp<;>with_reducible rfl)
   simp only[Act.put,zA,zD,zC];refine Bz (i:=10) (by kernel_rfl) (by kernel_rfl) (by kernel_rfl) (by rfl) (by assumption) (fun oi ho=>?_);simp only[yL,yG,zz,Option.some.injEq]at ho;subst ho;refine⟨?_,fun _ _ _ h=>h,.inl ⟨by rfl,fun W d=>?_⟩,?_⟩;rotate_left
   . (obtain⟨q1,q2,q3,q4,q5,q6,q7,q8⟩:=d;go_simp<;>with_reducible rfl)
   simp only[Act.put,zA,zD,zC];refine Bz (i:=11) (by kernel_rfl) (by kernel_rfl) (by kernel_rfl) (by rfl) (by assumption) (fun oi ho=>?_);simp only[yL,yG,zz,Option.some.injEq]at ho;subst ho;refine⟨?_,fun _ _ _ h=>h,.inl ⟨by rfl,fun W d=>?_⟩,?_⟩;rotate_left
   . (obtain⟨q1,q2,q3,q4,q5,q6,q7,q8⟩:=d;go_simp<;>with_reducible rfl)
   simp only[Act.put,zA,zD,zC];refine zT (rs:=[12]) (by kernel_rfl) (by simp) ?_;refine zK (o:=_) rfl (fun K hK=>?_) zR;go_simp;refine hK.o _ _ (by first|(with_reducible exact HS.o _ (h8.o.alloc h8.o.size _))|(with_reducible exact HS.o _ (((h8.o.setCell aa.o _).setCell aa.o _).setCell aa.o _))) (fun _=>?_)
   (try simp only[Act.put,zA,zD,zC])
   refine zT (rs:=[13]) (by kernel_rfl) (by simp) ?_;refine zK (o:=_) rfl (fun K hK=>?_) zR;go_simp;refine hK.o _ _ (by first|(with_reducible exact HS.o _ (h8.o.alloc h8.o.size _))|(with_reducible exact HS.o _ (((h8.o.setCell aa.o _).setCell aa.o _).setCell aa.o _))) (fun _=>?_)
   (try simp only[Act.put,zA,zD,zC])
   refine Bz (i:=14) (by kernel_rfl) (by kernel_rfl) (by kernel_rfl) (by rfl) (by assumption) (fun oi ho=>?_);simp only[yL,yG,zz,Option.some.injEq]at ho;subst ho;refine⟨?_,fun _ _ _ h=>h,.inl ⟨by rfl,fun W d=>?_⟩,?_⟩;rotate_left
   . (obtain⟨q1,q2,q3,q4,q5,q6,q7,q8⟩:=d;go_simp<;>with_reducible rfl)
   simp only[Act.put,zA,zD,zC];refine xJ (by kernel_rfl) ?_ _;obtain⟨w9,ae⟩:∃X,X=(w8.alloc (.cells #[.bool (rq (part*val ho)).1,.string (rq (part*val ho)).2.1,.string (rq (part*val ho)).2.2] 48)):=⟨_,rfl⟩;obtain⟨xb,ah⟩:∃x,x=w8.heap.size:=⟨_,rfl⟩;have h9:Hid (Below W.heap.size W w9):=by rw[ae];exact h8.o.alloc h8.o.size _
   have hP:Hid (Bk w9 xb 48 [.bool (rq (part*val ho)).1,.string (rq (part*val ho)).2.1,.string (rq (part*val ho)).2.2]):=by rw[ae,ah];exact Bk.new _ _ _
   rw[<-ae,<-ah];replace ae:=zh ae;replace ah:=zh ah;have bT9:=zh (bT.o.below h9.o);have aw:=zh (al.o _ h9.o);have x0:=bT9.o.c0;have x1:=bT9.o.c1;have x2:=bT9.o.c2;have x9:=bT9.o.lt;have y0:=hP.o.c0;have y1:=hP.o.c1;have y2:=hP.o.c2;have y9:=hP.o.lt;have k9:=zh (ka.o _ aw.o);clear ap HS hD al ka
   gi_wp2_with (refine⟨trivial,?_⟩;refine(yt l (callsIn_wide.2 k9.o)).q fun aX hb=>?_;have bT10:=zh (bT9.o.below hb);have ad:=h9.t hb;clear hb bT9 hP k9 x0 x1 x2 x9 y0 y1 y2 y9;have x0:=bT10.o.c0;have x1:=bT10.o.c1;have x2:=bT10.o.c2;have x9:=bT10.o.lt;have aY:=bT10.o.frozen 0;have aZ:=bT10.o.frozen 1;have a0:=bT10.o.frozen 2)
   have am:=hB.o.trans (ad.o.mono ai);have ak:w.heap.size+1+1+1≠w.heap.size+1:=by omega
   refine⟨((Hl ad.o).from _).trans (((yi _ _ _).trans (yi _ _ _)).trans (yi _ _ _) |>.from _),?_,⟨?_,?_,?_⟩,?_⟩
   .exact((((Kq.refl W).below ad.o ai aG).set (a:=⟨w.heap.size+1,0,none⟩) (by simp) (by show w.heap.size+1+1+1≠w.heap.size+1;omega) _).set (a:=⟨w.heap.size+1,1,none⟩) (by simp) (by show w.heap.size+1+1+1≠w.heap.size+1;omega) _).set (a:=⟨w.heap.size+1,2,none⟩) (by simp) (by show w.heap.size+1+1+1≠w.heap.size+1;omega) _
   .exact Bk.set (Bk.set (Bk.set bT10.o 0 _) 1 _) 2 _
   .exact(((bR.o.below ad.o).far (by simp) _).far (by simp) _).far (by simp) _
   .exact(((bP.o.below ad.o).far ak _).far ak _).far ak _
   exact((am.setCell (p:=⟨w.heap.size+1,0,none⟩) (by simp) _).setCell (p:=⟨w.heap.size+1,1,none⟩) (by simp) _).setCell (p:=⟨w.heap.size+1,2,none⟩) (by simp) _
  .go_simp;have an:Hid (Below W.heap.size W (W.alloc (.cells #[.bool false,.string ⟨#[]⟩,.string ⟨#[]⟩] 48)).drew):=((zI _ W).alloc (zB _) _).drew;have hZ:Hid (Bk (W.alloc (.cells #[.bool false,.string ⟨#[]⟩,.string ⟨#[]⟩] 48)).drew W.heap.size 48 [.bool false,.string ⟨#[]⟩,.string ⟨#[]⟩]):=(show Bk (W.alloc (.cells #[.bool false,.string ⟨#[]⟩,.string ⟨#[]⟩] 48)) W.heap.size 48 [.bool false,.string ⟨#[]⟩,.string ⟨#[]⟩] from Bk.new _ _ _);refine hK.o _ _ (HS.o _ an.o) (fun aR=>?_)
   (try simp only[Act.put,zA,zD,zC])
   clear aH;refine zT (rs:=[8]) (by kernel_rfl) (by simp) ?_;refine zK (o:=_) rfl (fun K hK=>?_) zR;go_simp;refine(km.o _ (al.o _ an.o)).q fun w8 hb=>?_;have h8:=an.t hb;have aj:=zh (hZ.o.below hb);clear hb km hZ an;have y0:=aj.o.c0;have y1:=aj.o.c1;have y2:=aj.o.c2;have y9:=aj.o.lt;have a1:=aj.o.frozen 0;have a2:=aj.o.frozen 1;have a3:=aj.o.frozen 2;refine hK.o _ _ (HS.o _ h8.o) (fun ap=>?_)
   (try simp only[Act.put,zA,zD,zC])
   clear aR;refine Bz (i:=9) (by kernel_rfl) (by kernel_rfl) (by kernel_rfl) (by rfl) (by assumption) (fun oi ho=>?_);simp only[yL,yG,zz,Option.some.injEq]at ho;subst ho;refine⟨?_,fun _ _ _ h=>h,.inl ⟨by rfl,fun W d=>?_⟩,?_⟩;rotate_left
   . (obtain⟨q1,q2,q3,q4,q5,q6,q7,q8⟩:=d;go_simp<;>with_reducible rfl)
   simp only[Act.put,zA,zD,zC];refine Bz (i:=10) (by kernel_rfl) (by kernel_rfl) (by kernel_rfl) (by rfl) (by assumption) (fun oi ho=>?_);simp only[yL,yG,zz,Option.some.injEq]at ho;subst ho;refine⟨?_,fun _ _ _ h=>h,.inl ⟨by rfl,fun W d=>?_⟩,?_⟩;rotate_left
   . (obtain⟨q1,q2,q3,q4,q5,q6,q7,q8⟩:=d;go_simp<;>with_reducible rfl)
   simp only[Act.put,zA,zD,zC];refine Bz (i:=11) (by kernel_rfl) (by kernel_rfl) (by kernel_rfl) (by rfl) (by assumption) (fun oi ho=>?_);simp only[yL,yG,zz,Option.some.injEq]at ho;subst ho;refine⟨?_,fun _ _ _ h=>h,.inl ⟨by rfl,fun W d=>?_⟩,?_⟩;rotate_left
   . (obtain⟨q1,q2,q3,q4,q5,q6,q7,q8⟩:=d;go_simp<;>with_reducible rfl)
   simp only[Act.put,zA,zD,zC];refine zT (rs:=[13]) (by kernel_rfl) (by simp) ?_;refine zK (o:=_) rfl (fun K hK=>?_) zR;go_simp;refine hK.o _ _ (by first|(with_reducible exact HS.o _ (h8.o.alloc h8.o.size _))|(with_reducible exact HS.o _ (((h8.o.setCell aa.o _).setCell aa.o _).setCell aa.o _))) (fun _=>?_)
   (try simp only[Act.put,zA,zD,zC])
   refine Bz (i:=14) (by kernel_rfl) (by kernel_rfl) (by kernel_rfl) (by rfl) (by assumption) (fun oi ho=>?_);simp only[yL,yG,zz,Option.some.injEq]at ho;subst ho;refine⟨?_,fun _ _ _ h=>h,.inl ⟨by rfl,fun W d=>?_⟩,?_⟩;rotate_left
   . (obtain⟨q1,q2,q3,q4,q5,q6,q7,q8⟩:=d;go_simp<;>with_reducible rfl)
   simp only[Act.put,zA,zD,zC];refine xJ (by kernel_rfl) ?_ _;clear y0 y1 y2 y9 a1 a2 a3;have ap:=0;obtain⟨w9,ae⟩:∃X,X=((w8.setCell ⟨W.heap.size,0,none⟩ (.bool (rq (part*val ho)).1)).setCell ⟨W.heap.size,1,none⟩ (.string (rq (part*val ho)).2.1)).setCell ⟨W.heap.size,2,none⟩ (.string (rq (part*val ho)).2.2):=⟨_,rfl⟩;obtain⟨xb,ah⟩:∃x,x=W.heap.size:=⟨_,rfl⟩;have h9:Hid (Below W.heap.size W w9):=by rw[ae];exact((h8.o.setCell aa.o _).setCell aa.o _).setCell aa.o _
   have hP:Hid (Bk w9 xb 48 [.bool (rq (part*val ho)).1,.string (rq (part*val ho)).2.1,.string (rq (part*val ho)).2.2]):=by rw[ae,ah];exact((aj.o.set 0 _).set 1 _).set 2 _
   rw[<-ae,<-ah];replace ae:=zh ae;replace ah:=zh ah;have bT9:=zh (bT.o.below h9.o);have aw:=zh (al.o _ h9.o);have x0:=bT9.o.c0;have x1:=bT9.o.c1;have x2:=bT9.o.c2;have x9:=bT9.o.lt;have y0:=hP.o.c0;have y1:=hP.o.c1;have y2:=hP.o.c2;have y9:=hP.o.lt;have k9:=zh (ka.o _ aw.o);clear ap HS hD al ka
   gi_wp2_with (refine⟨trivial,?_⟩;refine(yt l (callsIn_wide.2 k9.o)).q fun aX hb=>?_;have bT10:=zh (bT9.o.below hb);have ad:=h9.t hb;clear hb bT9 hP k9 x0 x1 x2 x9 y0 y1 y2 y9;have x0:=bT10.o.c0;have x1:=bT10.o.c1;have x2:=bT10.o.c2;have x9:=bT10.o.lt;have aY:=bT10.o.frozen 0;have aZ:=bT10.o.frozen 1;have a0:=bT10.o.frozen 2)
   have am:=hB.o.trans (ad.o.mono ai);have ak:w.heap.size+1+1+1≠w.heap.size+1:=by omega
   refine⟨((Hl ad.o).from _).trans (((yi _ _ _).trans (yi _ _ _)).trans (yi _ _ _) |>.from _),?_,⟨?_,?_,?_⟩,?_⟩
   .exact((((Kq.refl W).below ad.o ai aG).set (a:=⟨w.heap.size+1,0,none⟩) (by simp) (by show w.heap.size+1+1+1≠w.heap.size+1;omega) _).set (a:=⟨w.heap.size+1,1,none⟩) (by simp) (by show w.heap.size+1+1+1≠w.heap.size+1;omega) _).set (a:=⟨w.heap.size+1,2,none⟩) (by simp) (by show w.heap.size+1+1+1≠w.heap.size+1;omega) _
   .exact Bk.set (Bk.set (Bk.set bT10.o 0 _) 1 _) 2 _
   .exact(((bR.o.below ad.o).far (by simp) _).far (by simp) _).far (by simp) _
   .exact(((bP.o.below ad.o).far ak _).far ak _).far ak _
   .exact((am.setCell (p:=⟨w.heap.size+1,0,none⟩) (by simp) _).setCell (p:=⟨w.heap.size+1,1,none⟩) (by simp) _).setCell (p:=⟨w.heap.size+1,2,none⟩) (by simp) _
 case done=>
  rintro D ys W hD rfl ⟨⟨bT,bR,_⟩,hB⟩ hK;rw[GT az val p _ (zB _),xA (by unfold Ag;rw[zW];exact zB _)]at bT;have x0:=bT.c0;have x1:=bT.c1;have x2:=bT.c2;have x9:=bT.lt;have r0:=bR.c0;have r1:=bR.c1;have r2:=bR.c2;have r9:=bR.lt;have a9:=bR.frozen 0;have ba:=bR.frozen 1;have bb:=bR.frozen 2;replace hB:=zh hB;replace hK:=zh hK;obtain⟨W2,aq⟩:∃X,X=((W.setCell ⟨w.heap.size,0,none⟩ (.bool (rq (Ao p val (Ag s.cap))).1)).setCell ⟨w.heap.size,1,none⟩ (.string (rq (Ao p val (Ag s.cap))).2.1)).setCell ⟨w.heap.size,2,none⟩ (.string (rq (Ao p val (Ag s.cap))).2.2):=⟨_,rfl⟩;have aM:Hid (Below w.heap.size w W2):=by rw[aq];exact((hB.o.setCell (p:=⟨w.heap.size,0,none⟩) (zB _) _).setCell (p:=⟨w.heap.size,1,none⟩) (zB _) _).setCell (p:=⟨w.heap.size,2,none⟩) (zB _) _
  have aP:Hid (Bk W2 w.heap.size 48 [.bool (rq (Ao p val (Ag s.cap))).1,.string (rq (Ao p val (Ag s.cap))).2.1,.string (rq (Ao p val (Ag s.cap))).2.2]):=by rw[aq];exact Bk.set (Bk.set (Bk.set bR 0 _) 1 _) 2 _
  have aE:Hid (W2.heap[D]? = some (.deferred (some []))):=by
   rw[aq];exact(((yi _ _ _).trans (yi _ _ _)).trans (yi _ _ _)).same D _ hK.o rfl
  go_wp2
  (try rw[<-aq])
  refine⟨by simp,.inl ⟨_,_,rfl,xy aE.o,?_⟩⟩;have aW:w.heap.size≠D:=by omega
  have bR3:Bk (W2.putObj D (.deferred none)) w.heap.size 48 [.bool (rq (Ao p val (Ag s.cap))).1,.string (rq (Ao p val (Ag s.cap))).2.1,.string (rq (Ao p val (Ag s.cap))).2.2]:=aP.o.grown (xv W2 D _) (fun e=>by cases e;exact aW rfl);have s0:=bR3.c0;have s1:=bR3.c1;have s2:=bR3.c2;refine⟨.agg #[.bool (rq (Ao p val (Ag s.cap))).1,.string (rq (Ao p val (Ag s.cap))).2.1,.string (rq (Ao p val (Ag s.cap))).2.2],?_,rfl,aM.o.trans (belowK_b (w:=w) (zB _) W2 D _ _ (by omega) aE.o rfl rfl)⟩;simp[results,results49,go_sem,s0,s1,s2]
 case stop=>
  rintro D c pre W _ _ h _;exact h.elim
end Bd
end
section
namespace Bd
open Nt Ci Sh
section
variable {n:Nat} {L:List Lp} {F:List Nat}
def Abv(n:Nat)(L:List Lp)(F:List Nat)(v:Nat->Rat):Prop:=∀p,p<n->0<=v p/\(p∈F->1<=v p)/\(p∉F->Ao p v L<=v p)
def Wy(L:List Lp)(F:List Nat)(v:Nat->Rat)(r:Nat->Int)(p:Nat):Prop :=
 (v p=0->r p=-1)/\(v p≠0->p∈F->r p=0/\v p<=1)/\(v p≠0->p∉F->1<=r p/\v p<=Ao p v L/\∃x,x∈L/\x.1=p/\0<=r x.2.1/\r x.2.1<r p/\v x.2.1≠0)
def Blw(n:Nat)(L:List Lp)(F:List Nat)(v:Nat->Rat)(r:Nat->Int):Prop:=∀p,p<n->0<=v p/\Wy L F v r p
theorem Abv.eff(hL:Caps n L){v e:Nat->Rat}(h:Abv n L F v)(he:Eff n L F e):∀p,p<n->e p<=v p :=
 he.least hL (fun p hp=>(h p hp).1) (fun p hp hF=>(h p hp).2.1 hF) fun p hp hF=>(h p hp).2.2 hF
theorem Blw.grounded{v:Nat->Rat}{r:Nat->Int}(h:Blw n L F v r):∀p,p<n->p∉F->0<v p->v p<=Ao p v L/\∃x,x∈L/\x.1=p/\(r x.2.1).toNat<(r p).toNat:=fun p hp hF hv=>by
 obtain⟨h1,h2,x,x1,x2,x3,x4,_⟩:=(h p hp).2.2.2 (by grind) hF;exact⟨h2,x,x1,x2,by omega⟩
theorem Blw.le1{v:Nat->Rat}{r:Nat->Int}(h:Blw n L F v r):∀p,p<n->p∈F->v p<=1:=fun p hp hF=>by
 by_cases c:v p=0
 .rw[c];decide
 exact((h p hp).2.2.1 c hF).2
theorem Blw.eff(hL:Caps n L){v e:Nat->Rat}{r:Nat->Int}(h:Blw n L F v r)(he:Eff n L F e):∀p,p<n->v p<=e p :=
 he.most hL (fun p=>(r p).toNat) h.le1 h.grounded
end
theorem isI_dvd{x:Rat}{D:Nat}(h:x.den∣D):IsI ((D:Rat)*x):=by
 obtain⟨k,rfl⟩:=h;have hq:=Rat.mkRat_self x;rw[vT]at hq
 have hd:(x.den:Rat)≠0:=by
  have:(0:Rat)<(x.den:Rat):=Rat.natCast_pos.2 x.den_pos;grind
 refine⟨k*x.num,?_⟩;rw[xh,Rat.intCast_mul,wh];rw[wT]at hq;have hi:=xf _ hd;generalize (x.den:Rat)=D at *;generalize (x.num:Rat)=N at *;rw[<-hq];have e:D*(k:Rat)*(N*D⁻¹)=(k:Rat)*N*(D*D⁻¹):=by grind
 rw[e,hi];grind
structure Fits(M n:Nat)(v:Nat->Rat)(D:Nat):Prop where
 dp:0<D
 dm:D<M
 nn:∀p,p<n->0<=v p
 num:∀p,p<n->(v p).num.natAbs<M
 dvd:∀p,p<n->(v p).den∣D
theorem QA{x:Rat}{M:Nat}(_:0<=x)(h:x.num.natAbs<M):x<=(M:Rat):=by
 rw[vY];have e1:((M:Nat):Rat).num=M:=Rat.num_natCast M;have e2:((M:Nat):Rat).den=1:=Rat.den_natCast M;rw[e1,e2];have hd:=x.den_pos;have:(M:Int)*1<=(M:Int)*(x.den:Int):=Int.mul_le_mul_of_nonneg_left (by omega) (by omega);omega
theorem Xl{x:Rat}{c d:Nat}(hd:0<d)(h0:0<=x)(h1:x<=(c:Rat))(hi:IsI ((d:Rat)*x)):x.num.natAbs<=c*d/\x.den<=d:=by
 obtain⟨z,hz⟩:=hi
 have hdr:(d:Rat)≠0:=by
  have:(0:Rat)<(d:Rat):=Rat.natCast_pos.2 hd;grind
 have e:x=mkRat z d:=by
  rw[vT,<-hz,wT];have:=xf _ hdr;grind
 have h:x.den∣d:=by
  rw[e,Rat.den_mkRat,zE (by omega)];exact Nat.div_dvd_of_dvd (qA _ _)
 have aa:=vV hd h;refine⟨?_,aa⟩;have h2:=(vY _ _).1 h1;have e1:((c:Nat):Rat).num=c:=Rat.num_natCast c;have e2:((c:Nat):Rat).den=1:=Rat.den_natCast c;rw[e1,e2]at h2;have h3:=Rat.num_nonneg.2 h0
 have h4:x.num.natAbs<=c*x.den:=by
  have:((c*x.den:Nat):Int)=(c:Int)*(x.den:Int):=xU ..;omega
 exact zQ h4 (yr _ aa)
theorem Fits.sum{M n D:Nat}{L:List Lp}{v:Nat->Rat}(h:Fits M n v D)(hL:Caps n L)(p k:Nat):(Ao p v (L.take k)).num.natAbs<=M*(6000*M)/\(Ao p v (L.take k)).den<=6000*M:=by
 have hT:=hL.take k;have h0:=BP (p:=p) (f:=v) hT.pos fun x hx _=>h.nn _ (hT.lt x hx).2;have h1:Ao p v (L.take k)<=(M:Rat):=hT.le_of (Rat.natCast_nonneg) fun x hx _=>QA (h.nn _ (hT.lt x hx).2) (h.num _ (hT.lt x hx).2);have h2:=hT.int_sum (p:=p) (f:=v) (D:=(D:Rat)) fun x hx _=>isI_dvd (h.dvd _ (hT.lt x hx).2);have h3:IsI (((6000*D:Nat):Rat)*Ao p v (L.take k)):=by rw[xh];exact h2
 obtain⟨a,b⟩:=Xl (wM (by omega) h.dp) h0 h1 h3;have hm:6000*D<=6000*M:=yr _ (xF h.dm);exact⟨zQ a (yr _ hm),zQ b hm⟩
end Bd
end
section
namespace Bd
open Nt Ci Sh
def D4(V:List Raw)(p:Nat):Rat:=if p<V.length then vq (V.getD p zraw) else 0
structure FitV(val:Nat->Rat)(D:Nat):Prop where
 nn:∀p,0<=val p
 dp:0<D
 dlt:D<10^65
 num:∀p,(val p).num.natAbs<10^65
 whole:∀p,IsI ((D:Rat)*val p)
theorem T9{m d:Nat}(hm:0<m):m∣Cc m d/\d∣Cc m d:=by
 unfold Cc;refine⟨Nat.dvd_mul_right _ _,?_⟩;have hg:=Nat.gcd_pos_of_pos_left d hm;obtain⟨a,ha⟩:=qA m d;obtain⟨b,hb⟩:=Nat.gcd_dvd_right m d;generalize Nat.gcd m d=g at *;have e1:d/g=b:=by rw[hb,Nat.mul_div_cancel_left _ hg]
 rw[e1];exact⟨a,by rw[ha,hb];rw[yw,yw,yT a b]⟩
theorem Mi:∀(l:List Raw)(m:Nat),0<m->m<10^65->H7 m l=true->(∀x,x∈l->Ee x=true/\x.1=false/\x.2.1.size<=65/\x.2.2.size<=65)/\∃D,0<D/\D<10^65/\m∣D/\∀x,x∈l->(vq x).den∣D
 | [],m,hm,aa,_=>⟨fun _ h=>(by cases h),m,hm,aa,Nat.dvd_refl _,fun _ h=>(by cases h)⟩
 |x :: t,m,hm,aa,h=>by
  rw[JN]at h;simp only[zr,yC,Bool.not_eq_true']at h;obtain⟨h1,h2,h3,h4,h5,h6⟩:=h;obtain⟨i1,D,d1,d2,d3,d4⟩:=Mi t (Cc m (vq x).den) (JO hm (vq x).den_pos) ((DJ (by decide)).1 h5) h6;have hn:=T9 (d:=(vq x).den) hm;refine⟨fun y hy=>?_,D,d1,d2,Nat.dvd_trans hn.1 d3,fun y hy=>?_⟩
  .rcases List.mem_cons.1 hy with rfl|hy
   .exact⟨h1,h2,h3,h4⟩
   exact i1 y hy
  rcases List.mem_cons.1 hy with rfl|hy
  .exact Nat.dvd_trans hn.2 d3
  exact d4 y hy
theorem Pb{V:List Raw}{p:Nat}(h:p<V.length):D4 V p=vq V[p]:=by
 unfold D4;rw[zF h,yH,ze h];rfl
theorem Ek{V:List Raw}(h:Hk V=true):V=B9 V.length (D4 V)/\∃D,FitV (D4 V) D:=by
 obtain⟨h1,D,d1,d2,_,d4⟩:=Mi V 1 (by decide) (Nat.one_lt_pow (by decide) (by decide)) h;have hx:∀p (hp:p<V.length),rq (D4 V p)=V[p]:=fun p hp=>by rw[Pb hp];exact(FT (h1 _ (zO hp)).1).1
 refine⟨List.ext_getElem (Au _ _).symm fun i hi h2=>?_,D,fun p=>?_,d1,d2,fun p=>?_,fun p=>?_⟩
 .rw[BN,hx i hi]
 .by_cases hp:p<V.length
  .have e:(rq (D4 V p)).1=false:=by rw[hx p hp];exact(h1 _ (zO hp)).2.1
   have e2:¬(D4 V p).num<0:=yA e;exact Rat.num_nonneg.1 (by omega)
  rw[show D4 V p=0 from zE hp];exact xT
 .by_cases hp:p<V.length
  .have e:(T (some (D4 V p).num.natAbs))=V[p].2.1:=congrArg (·.2.1) (hx p hp);exact(DJ (by decide)).1 (by rw[e];exact(h1 _ (zO hp)).2.2.1)
  rw[show D4 V p=0 from zE hp];exact wC (by decide)
 by_cases hp:p<V.length
 .rw[Pb hp];exact isI_dvd (d4 _ (zO hp))
 rw[show D4 V p=0 from zE hp,vj];exact IsI.zero
theorem FitV.dg{val:Nat->Rat}{D:Nat}(h:FitV val D)(p:Nat):Dg 65 (val p) :=
 ⟨h.num p,zn (vV h.dp (Ib h.dp (h.whole p))) h.dlt⟩
theorem FitV.short{val:Nat->Rat}{D:Nat}(h:FitV val D)(p:Nat):ShortQ (val p):=(h.dg p).short (by decide)
theorem VF{q:Rat}(h:Fit 6000 q):Dg 4 q:=by
 obtain⟨h1,h2,d,d1,d2,d3⟩:=h;have hd:q.den<=6000:=zQ (vV d1 (Ib d1 d3)) d2;have b:=(vY _ _).1 h2;have c:=(vY _ _).1 h1;have e3:(1:Rat).num=1:=rfl;have e4:(1:Rat).den=1:=rfl;have e5:(-1:Rat).num=-1:=rfl;have e6:(-1:Rat).den=1:=rfl;rw[e3,e4]at b;rw[e5,e6]at c;exact⟨by show q.num.natAbs<10^4;omega,by show q.den<10^4;omega⟩
theorem Xm{val:Nat->Rat}{D:Nat}(h:FitV val D)(p:Nat):val p<=((10^65:Nat):Rat):=by
 rw[vY];have e3:((10^65:Nat):Rat).num=((10^65:Nat):Int):=rfl;have e4:((10^65:Nat):Rat).den=1:=rfl;rw[e3,e4];have h1:=h.num p;have h2:=(val p).den_pos;have h3:(val p).num<=((10^65:Nat):Int):=by omega
 have h4:((10^65:Nat):Int)*1<=((10^65:Nat):Int)*((val p).den:Int):=Int.mul_le_mul_of_nonneg_left (by omega) (by omega);omega
theorem TA{q:Rat}{B d:Nat}(h0:0<=q)(hB:q<=(B:Rat))(hd:0<d)(hi:IsI ((d:Rat)*q))(h1:B*d<L1)(h2:d<L1):ShortQ q:=by
 have h3:=vV hd (Ib hd hi);have b:=(vY _ _).1 hB;have e3:((B:Nat):Rat).num=(B:Int):=rfl;have e4:((B:Nat):Rat).den=1:=rfl;rw[e3,e4]at b;have c:=Rat.num_nonneg.2 h0;have h4:B*q.den<=B*d:=yr _ h3;have h5:((B*q.den:Nat):Int)=(B:Int)*(q.den:Int):=by push_cast;rfl
 exact⟨by omega,by omega⟩
theorem Pc:300*10^65*(6000*10^65)<L1:=by
 have e:L1=10^140:=by unfold L1;rw[DQ]
 rw[e]
 have h:300*10^65*(6000*10^65)=1800000*10^130:=by
  rw[show (10:Nat)^130=10^65*10^65 by rw[<-xu]]
 rw[h,show (10:Nat)^140=10^10*10^130 by rw[<-xu]];exact Nat.mul_lt_mul_of_pos_right (by decide) (wC (by decide))
section
variable {s:SR} {val:Nat->Rat} {D:Nat}
theorem KR(d:Ak s=true)(h:FitV val D){i:Nat}(hi:i<s.cap.length):0<=DK (Ag s.cap) val i/\DK (Ag s.cap) val i<=((10^65:Nat):Rat)/\IsI (((6000*D:Nat):Rat)*DK (Ag s.cap) val i)/\ShortQ (DK (Ag s.cap) val i):=by
 have hL:=BY d;have aa:(Ag s.cap).length=s.cap.length:=by unfold Ag;rw[zW]
 have hk:i<(Ag s.cap).length:=by omega
 have e:DK (Ag s.cap) val i=(Ag s.cap)[i].2.2*val (Ag s.cap)[i].2.1:=by
  unfold DK;rw[yH,ze hk];rfl
 rw[e];have hf:=Gw hL hk;have h0:=hL.pos _ (zO hk);have h2:=h.nn (Ag s.cap)[i].2.1;have h3:=Xm h (Ag s.cap)[i].2.1;have hw:=(hL.whole _ (zO hk)).mul (h.whole (Ag s.cap)[i].2.1);generalize (Ag s.cap)[i].2.2=pt at *;have hd:=h.dg (Ag s.cap)[i].2.1;generalize val (Ag s.cap)[i].2.1=v at *;refine⟨xm (xL h0) h2,?_,?_,((VF hf).mul hd).short (by decide)⟩
 .have h5:=Rat.mul_le_mul_of_nonneg_right hf.2.1 h2;rw[wL]at h5;grind
 have e2:6000*pt*((D:Rat)*v)=((6000*D:Nat):Rat)*(pt*v):=by
  rw[xh,show ((6000:Nat):Rat)=6000 from rfl];grind
 rw[e2]at hw;exact hw
theorem Pd(aa:Ak s=true)(h:FitV val D):∀(k:Nat)(pre:List (EF s.cap.length)),pre.length=k->0<=E5 (Ag s.cap) val pre/\E5 (Ag s.cap) val pre<=((k*10^65:Nat):Rat)/\IsI (((6000*D:Nat):Rat)*E5 (Ag s.cap) val pre)
 |0,pre,hl=>by
  rw[List.length_eq_zero_iff.1 hl];refine⟨xT,by rw[wA];exact xT,?_⟩
  show IsI (((6000*D:Nat):Rat)*0)
  rw[vj];exact IsI.zero
 |k + 1,pre,hl=>by
  have d:pre≠[]:=fun e=>by rw[e]at hl;cases hl
  have e:=vD d;obtain⟨a1,a2,a3⟩:=Pd aa h k pre.dropLast (by rw[List.length_dropLast];omega);obtain⟨b1,b2,b3,_⟩:=KR aa h (pre.getLast d).2;rw[<-e,GS];generalize E5 (Ag s.cap) val pre.dropLast=x at *;generalize DK (Ag s.cap) val (pre.getLast d).1=y at *;refine⟨Rat.add_nonneg a1 b1,?_,?_⟩
  .rw[yo,Nat.one_mul,Rat.natCast_add];grind
  rw[Rat.mul_add];exact a3.add b3
theorem FU(d:Ak s=true)(aa:s.cap.length<=300)(h:FitV val D)(pre:List (EF s.cap.length))(hp:pre.length<=s.cap.length):ShortQ (E5 (Ag s.cap) val pre):=by
 obtain⟨a1,a2,a3⟩:=Pd d h _ pre rfl;have hD:=h.dlt;have h1:pre.length*10^65<=300*10^65:=xB _ (by omega);have h2:6000*D<=6000*10^65:=yr _ (by omega);have h3:pre.length*10^65*(6000*D)<L1:=zn (wl h1 h2) Pc;have h4:6000*D<L1:=zn (zQ h2 (vv _ (wM (by decide) (wC (by decide))))) Pc;exact TA a1 a2 (wM (by decide) h.dp) a3 h3 h4
theorem Mj(d:Ak s=true)(aa:s.cap.length<=300)(h:FitV val D)(p:Nat):ShortQ (Ao p val (Ag s.cap)):=by
 have e:=GT d val p s.cap.length (zB _);rw[xA (by unfold Ag;rw[zW];exact zB _)]at e;rw[<-e];exact FU d aa h _ (FB _ _ _)
end
end Bd
end
section
open Go.RowKit Go.Shelf
namespace Bd
open Nt Ci Sh
theorem TB(g1 g2:Bool)(n1 d1 n2 d2:ByteArray)(c f:Int)(w:World)(hE:Env w)
 (hk:∀W,Env W->Calls prog 55 #[.agg #[.bool g1,.string n1,.string d1],.agg #[.bool g2,.string n2,.string d2]] W fun e w'=>e=.returned (.tuple #[.int .i64 c,.int .i64 f])/\Below W.heap.size W w'):
 Calls prog 54 #[.agg #[.bool g1,.string n1,.string d1],.agg #[.bool g2,.string n2,.string d2]] w fun e w'=>e=.returned (.bool (decide (f=0)&&decide (c<=0)))/\Below w.heap.size w w':=by
 have d:Hid (Below w.heap.size w ((w.alloc (.cells #[.bool g1,.string n1,.string d1] 48)).alloc (.cells #[.bool g2,.string n2,.string d2] 48))):=(((zI _ w).alloc (zB _) _).alloc (by simp) _);have aa:Hid (Bk ((w.alloc (.cells #[.bool g1,.string n1,.string d1] 48)).alloc (.cells #[.bool g2,.string n2,.string d2] 48)) (w.heap.size) 48 [.bool g1,.string n1,.string d1]):=by have h:=Bk.new w 48 [.bool g1,.string n1,.string d1];have h:=h.alloc (.cells #[.bool g2,.string n2,.string d2] 48); exact h
 have ad:Hid (Bk ((w.alloc (.cells #[.bool g1,.string n1,.string d1] 48)).alloc (.cells #[.bool g2,.string n2,.string d2] 48)) (w.heap.size+1) 48 [.bool g2,.string n2,.string d2]):=by have h:=Bk.new (w.alloc (.cells #[.bool g1,.string n1,.string d1] 48)) 48 [.bool g2,.string n2,.string d2];simp only[zV]at h;exact h
 have k1:=zh (hk ((w.alloc (.cells #[.bool g1,.string n1,.string d1] 48)).alloc (.cells #[.bool g2,.string n2,.string d2] 48)) (hE.below d.o));clear hk;have x0:=aa.o.c0;have x1:=aa.o.c1;have x2:=aa.o.c2;have x9:=aa.o.lt;have y0:=ad.o.c0;have y1:=ad.o.c1;have y2:=ad.o.c2;have y9:=ad.o.lt
 by_cases hf:f=0
 .subst hf;rw[show (decide ((0:Int)=0)&&decide (c<=0))=decide (c<=0) by simp]
  cases hc:decide (c<=0) with
  |true=>
   go_enter func54,ntmps54
   go_wp2_with fail
   refine k1.o.q fun w3 hb=>?_;have ae:=d.t hb;have af:=zh (aa.o.below hb);have ag:=zh (ad.o.below hb);clear hb d aa ad k1 x0 x1 x2 x9 y0 y1 y2 y9;go_wp2;go_ret;exact⟨rfl,ae.o⟩
  |false=>
   go_enter func54,ntmps54
   go_wp2_with fail
   refine k1.o.q fun w3 hb=>?_;have ae:=d.t hb;have af:=zh (aa.o.below hb);have ag:=zh (ad.o.below hb);clear hb d aa ad k1 x0 x1 x2 x9 y0 y1 y2 y9;go_wp2;go_ret;exact⟨rfl,ae.o⟩
 have m1:(f==0)=false:=by rw[zN];exact hf
 rw[zH hf];replace hf:=zh hf;go_enter func54,ntmps54
 go_wp2_with fail
 refine k1.o.q fun w3 hb=>?_;have ae:=d.t hb;have af:=zh (aa.o.below hb);have ag:=zh (ad.o.below hb);clear hb d aa ad k1 x0 x1 x2 x9 y0 y1 y2 y9;go_wp2;go_ret;exact⟨rfl,ae.o⟩
theorem BS(p q:Rat)(hp:ShortQ p)(hq:ShortQ q)(w:World)(hE:Env w):
 Calls prog 54 #[.agg #[.bool (rq (p)).1,.string (rq (p)).2.1,.string (rq (p)).2.2],.agg #[.bool (rq (q)).1,.string (rq (q)).2.1,.string (rq (q)).2.2]] w fun e w'=>e=.returned (.bool (decide (p<=q)))/\Below w.heap.size w w':=by
 have h:=TB _ _ _ _ _ _ _ _ w hE (fun W hW=>CI p q hp hq W hW);rw[OV]at h;exact h
end Bd
end
end Go.Proofs.YtefmpngjjmddjaaGreatDoor

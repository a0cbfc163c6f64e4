/- Texts that the proof needs: CirTurned, CirMem, ShaReg, ShaReg22, ShaTake, ShaSolve, ShaRowP, ShaBuild, ShaSlv, BndSum, BndP, BndVal. -/
import Derived.Test.YtmfjbpcecpgchaaGreatDoorKeD
set_option maxHeartbeats 32000000
set_option maxRecDepth 1000000
namespace Go.Proofs.YtmfjbpcecpgchaaGreatDoor
theorem tkeE{P:Program}{md:Region.Mode}{ops:Array Oper}{Q:Exit->Act->World->Prop}{S:World->Prop}{oi:Oper}{v:Value}{fuel:Nat}{listed:Array Bool}{a:Act}{w:World}(i:Nat)(hi:ops[i]?=some oi)(hS:S w)(hy:YieldsIf P ops S oi v a)(h:wpAnyH P md ops Q S fuel (listed.setIfInBounds i true) (a.put oi.dst v) w)(hs:Region.noSelect ops=true:=by kernel_rfl)(hf:Region.free md ops listed i=true:=by kernel_rfl)(hr:(Region.ready md ops listed).contains i=true:=by kernel_rfl)(hQ:∀c a w,Q (.panic c) (a.put oi.dst v) w->Q (.panic c) a w:=by exact fun _ _ _ h=>h):wpAnyH P md ops Q S (fuel+1) listed a w:=vR hi hs hf hr hQ hy hS h
section
open Go.RowKit Go.Shelf
namespace Ci
open Nt
theorem P9{w:World}{base m:Nat}{e:TypeId}{v:Value}{xs:List Value}(h:w.ownsRow base e 1 v (m+1) xs):∃g cap,v=.slice (some ⟨g,0,none⟩) (m+1) cap:=by
 rcases h.2 with⟨_,h0⟩|⟨g,cap,_,rfl,_⟩
 .omega
 exact⟨g,cap,rfl⟩
def TurnI(n i j:Nat)(adj T:Nat->List Nat):Prop:=(∀q x,q<n->(x∈T q<->(x<i/\q∈adj x)\/(x=i/\q∈(adj i).take j)))/\∀q,(T q).length<=1000*i+j
theorem TurnI.next{n i:Nat}{adj T:Nat->List Nat}(h:TurnI n i (adj i).length adj T)(hl:(adj i).length<=1000):TurnI n (i+1) 0 adj T:=by
 refine⟨fun q x hq=>?_,fun q=>by have:=h.2 q;omega⟩;rw[h.1 q x hq,yi];constructor
 .rintro(⟨a,b⟩|⟨rfl,b⟩)
  .exact .inl ⟨by omega,b⟩
  exact .inl ⟨by omega,b⟩
 rintro(⟨a,b⟩|⟨_,b⟩)
 .by_cases e:x=i
  .subst e;exact .inr ⟨rfl,b⟩
  exact .inl ⟨by omega,b⟩
 simp at b
theorem TurnI.step{n i j:Nat}{adj T:Nat->List Nat}(h:TurnI n i j adj T)(hj:j<(adj i).length):TurnI n i (j+1) adj (EJ T (adj i)[j] i):=by
 refine⟨fun q x hq=>?_,fun q=>?_⟩
 .unfold EJ;rw[zO hj]
  by_cases e:q=(adj i)[j]
  .rw [zG e,xO,h.1 q x hq,xO,xq,xq];constructor
   .rintro((a|⟨a,b⟩)|a)
    .exact .inl a
    .exact .inr ⟨a,.inl b⟩
    exact .inr ⟨a,.inr e⟩
   rintro(a|⟨a,b|_⟩)
   .exact .inl (.inl a)
   .exact .inl (.inr ⟨a,b⟩)
   exact .inr a
  rw[zF e,h.1 q x hq,xO,xq];constructor
  .rintro(a|⟨a,b⟩)
   .exact .inl a
   exact .inr ⟨a,.inl b⟩
  rintro(a|⟨a,b|b⟩)
  .exact .inl a
  .exact .inr ⟨a,b⟩
  exact absurd b e
 unfold EJ;have:=h.2 q
 split
 .rw[zX,ws];omega
 omega
theorem Na(R n B:Nat)(v:Nat->Value)(adj:Nat->List Nat)(w:World)(hn:n<=100)(aj:∀p,p<n->(adj p).length<=1000)(ar:∀p q,p<n->q∈adj p->q<n)(hG:Gr w B R n v adj):
 Calls Tryz.prog 83 #[.slice (some ⟨R,0,none⟩) n n] w fun e w'=>(∃R' v' T,e=.returned (.slice (some ⟨R',0,none⟩) n n)/\Gr w' w.heap.size R' n v' T/\TurnI n n 0 adj T)/\Below w.heap.size w w':=by
 -- for 41
 have aP:=wV (P:=Tryz.prog) 87 26 (.slice none 0 0) 24 Tryz.underlying87 Se rfl .i64 .i64 n (by omega) (by omega);have aB:Hid (Gr (w.alloc (.cells (madeCells #[(.slice none 0 0:Value)] n) 26)) w.heap.size w.heap.size n (fun _=>.slice none 0 0) fun _=>[]):=Gr.start w (zA _) n 26;have az:Hid (Below w.heap.size w (w.alloc (.cells (madeCells #[(.slice none 0 0:Value)] n) 26))):=(zI _ w).alloc (zA _) _;have aC:Hid (TurnI n 0 0 adj fun _=>[]):=⟨fun q x _=>⟨fun h=>(by cases h),fun h=>(by rcases h with⟨h,_⟩|⟨_,h⟩<;>simp at h)⟩,fun _=>zP _⟩;obtain⟨i0,aq,aI⟩:=Option.map_eq_some_iff.1 GZ;simp only[Prod.mk.injEq]at aI;obtain⟨aw,ax,ay⟩:=aI;replace aq:=zh aq;replace aw:=zh aw;replace ax:=zh ax;replace ay:=zh ay;replace hG:=zh hG;replace aj:=zh aj;replace ar:=zh ar;go_enter Tryz.func83,Tryz.ntmps83;go_wp2;clear aP
 go_loopw [13] (fun ix wr=>∃(i:Nat)(v':Nat->Value)(T:Nat->List Nat),i<=n/\ix=.int .i64 (i:Int)/\Hid (Below w.heap.size w wr)/\Hid (Gr wr w.heap.size w.heap.size n v' T)/\Hid (TurnI n i 0 adj T)) (fun ix _=>n-(intOf ix).toNat)
 case atStart=>exact⟨0,_,_,zP _,rfl,az,aB,aC⟩
 case round=>
  obtain⟨i,v',T,hi,rfl,hB,an,hT⟩:=hrel;clear az aB aC
  by_cases ak:i<n
  .have aF:=aj.o i ak;have hd:=(hB.o.cell (p:=⟨R,i,none⟩) hG.o.lt).trans (hG.o.hd i ak);have j0:(0:Int)<=(i:Int):=by omega
   have j1:(i:Int)<(n:Int):=by omega
   rcases Ek (hG.o.rows i ak) with⟨am,al⟩|⟨g,cap,aH,_,aO,_,d⟩
   .rw [am]at hd
    have ah:Hid (TurnI n (i+1) 0 adj T):=by
     have h:=hT.o;refine TurnI.next ?_ aF;rw[al];exact h
    clear am al;go_wp2
    go_loopw [20] (fun ix wz=>ix=.int .i64 0/\wz=wr) (fun _ _=>0)
    case atStart=>exact⟨rfl,rfl⟩
    case round=>
     obtain⟨rfl,rfl⟩:=hrel;go_wp2;exact⟨⟨i+1,v',T,by omega,by go_num,hB,an,ah⟩,by simp only[intOf];omega⟩
   rw[aH]at hd;replace d:=zh d;clear aH;go_wp2
   go_loopw [20] (fun ix wz=>∃(j:Nat)(v2:Nat->Value)(T2:Nat->List Nat),j<=(adj i).length/\ix=.int .i64 (j:Int)/\Hid (Below w.heap.size w wz)/\Hid (Gr wz w.heap.size w.heap.size n v2 T2)/\Hid (TurnI n i j adj T2)) (fun ix _=>(adj i).length-(intOf ix).toNat)
   case atStart=>exact⟨0,v',T,zP _,rfl,hB,an,hT⟩
   case round=>
    obtain⟨j,v2,T2,hj,rfl,af,ad,ah⟩:=hrel
    by_cases hjl:j<(adj i).length
    .have hq:=ar.o i (adj i)[j] ak (zN hjl);have e1:=(af.o.cell (p:=⟨g,j,none⟩) aO).trans (d.o j hjl);have aD:=zh (ah.o.step hjl);obtain⟨q,av⟩:∃x,x=(adj i)[j]:=⟨_,rfl⟩;rw[<-av]at hq e1 aD;replace av:=zh av;obtain⟨vh,ae⟩:∃x,x=v2 q:=⟨_,rfl⟩;have aE:=ad.o.hd q hq;have aN:=ad.o.fr q;have aR:=ad.o.lt;have aa:=ad.o.rows q hq;rw[<-ae]at aE aa;have aQ:Hid (vh.ownBlock≠some w.heap.size):=by rw[ae];exact ad.o.ne q hq
     replace ae:=zh ae;replace aa:=zh aa;have aS:=ah.o.2 q;have aT:=af.o.size;have aA:Hid (Below w.heap.size w (wr.alloc (.cells #[.int .i64 (i:Int)] 3))):=af.o.alloc af.o.size _;have ag:=zh (ad.o.alloc (.cells #[.int .i64 (i:Int)] 3));have aM:Hid (World.cell? (wr.alloc (.cells #[.int .i64 (i:Int)] 3)) ⟨w.heap.size,q,none⟩=some vh):=by rw[ae.o];exact ag.o.hd q hq
     have q0:(0:Int)<=(q:Int):=by omega
     have q1:(q:Int)<(n:Int):=by omega
     have q2:(0:Int)<=(j:Int):=by omega
     have q3:(j:Int)<((adj i).length:Int):=by omega
     go_wp2_with (at_builtin;refine wpList_append_new _ rfl _ _ 26 rfl w.heap.size 3 i0 (.int .i64 0) 1 8 Tryz.underlying26 aq.o aw.o ax.o ay.o rfl (by decide) vh (T2 q).length (Ca (T2 q)) rfl (aa.o.alloc _) ⟨wr.heap.size,0,none⟩ 1 1 [.int .i64 (i:Int)] rfl rfl (AX _ _ _) (A7 _ rfl) (by omega) (by unfold maxLen;omega) (by omega) (by simp;omega) ?_;intro vb wb au ai aG;have aK:Hid (Gr (wb.setCell ⟨w.heap.size,q,none⟩ vb) w.heap.size w.heap.size n (fun x=>if x=q then vb else v2 x) (EJ T2 q i)):=(ag.o.step hq (by rw[<-ae.o];exact ai) au (by rw[<-ae.o];exact aG));have aJ:Hid (Below w.heap.size w (wb.setCell ⟨w.heap.size,q,none⟩ vb)):=((aA.o.grown ai aA.o.size (fun b e=>(aa.o.lt b e).1)).setCell (p:=⟨w.heap.size,q,none⟩) (zA _) _);have ao:=ai.block w.heap.size ag.o.lt (fun e=>aQ.o e.symm);have y1:=(zR (a:=⟨w.heap.size,q,none⟩) ao).trans aM.o;have y2:=(yW (a:=⟨w.heap.size,q,none⟩) ao).trans (ag.o.fr q);have y3:w.heap.size<wb.heap.size:=zJ ag.o.lt ai.size;obtain⟨g9,cap9,rfl⟩:=P9 au;clear au ai aG ao aE aN)
     exact⟨⟨j+1,_,_,by omega,by go_num,aJ,aK,aD⟩,by simp only[intOf];omega⟩
    obtain rfl:j=(adj i).length:=by omega
    have aL:=zh (ah.o.next aF);go_wp2;exact⟨⟨i+1,v2,T2,by omega,by go_num,af,ad,aL⟩,by simp only[intOf];omega⟩
  obtain rfl:i=n:=by omega
  go_wp2;go_ret;exact⟨⟨_,v',T,rfl,an.o,hT.o⟩,hB.o⟩
structure Kp(xs:List Nat)(w w':World):Prop where
 os:w'.os=w.os
 tape:w'.tape=w.tape
 output:w'.output=w.output
 size:w.heap.size<=w'.heap.size
 block:∀k,k<w.heap.size->k∉xs->w'.heap[k]? = w.heap[k]?
section
variable {xs:List Nat} {w w' w'':World} {B R n i b c mb:Nat} {v:Nat->Value} {adj ls:Nat->List Nat} {α:Type} {P:Program} {k:TypeId} {κ:α->Lit} {f:α->Option Value} {t:TypeId} {cs:List Value}
theorem Kp.refl(xs:List Nat)(w:World):Kp xs w w:=⟨rfl,rfl,rfl,zA _,fun _ _ _=>rfl⟩
theorem Kp.below(h:Kp xs w w')(hb:Below w'.heap.size w' w''):Kp xs w w'' :=
 ⟨hb.os.trans h.os,hb.tape.trans h.tape,hb.output.trans h.output,zS h.size hb.size,fun k hk hx=>(hb.block k (zJ hk h.size)).trans (h.block k hk hx)⟩
theorem Kp.alloc(h:Kp xs w w')(o:Obj):Kp xs w (w'.alloc o):=h.below ((zI _ w').alloc (zA _) o)
theorem Kp.drew(h:Kp xs w w'):Kp xs w w'.drew:=h.below (zI _ w').drew
theorem Kp.grown{row:Option Nat}(h:Kp xs w w')(hg:w'.grownBy w'' row)(hr:∀b,row=some b->b∈xs\/w.heap.size<=b):Kp xs w w'' :=
 ⟨hg.os.trans h.os,hg.tape.trans h.tape,hg.output.trans h.output,zS h.size hg.size,fun k hk hx=>(hg.block k (zJ hk h.size) (fun e=>by
   rcases hr k e.symm with h1|h1
   .exact hx h1
   omega)).trans (h.block k hk hx)⟩
theorem AD(w:World)(a:Addr)(u:Value):w.grownBy (w.setCell a u) (some a.block):=⟨rfl,rfl,rfl,by simp,fun k _ hk=>zg _ _ _ _ (fun e=>hk (by rw[e]))⟩
theorem Lt(w:World)(o:Obj)(row:Option Nat):w.grownBy (w.alloc o) row:=⟨rfl,rfl,rfl,by simp,fun k hk _=>heap_alloc_old w o hk⟩
theorem Kp.set(h:Kp xs w w'){a:Addr}(u:Value)(ha:a.block∈xs\/w.heap.size<=a.block):Kp xs w (w'.setCell a u):=h.grown (AD w' a u) fun b e=>by cases e;exact ha
theorem Kp.to_below(h:Kp xs w w'){w0:World}(h0:Below w0.heap.size w0 w)(hx:∀x,x∈xs->w0.heap.size<=x):Below w0.heap.size w0 w' :=
 h0.trans ⟨h.os,h.tape,h.output,h.size,fun k hk=>h.block k (zJ hk h0.size) fun e=>by have:=hx k e;omega⟩
theorem Kp.heap(h:Kp xs w w')(hb:b<w.heap.size)(hx:b∉xs):w'.heap[b]? = w.heap[b]?:=h.block b hb hx
theorem Gr.of_block(h:Gr w B R n v adj)(hs:w.heap.size<=w'.heap.size)(hR:w'.heap[R]? = w.heap[R]?)(hv:∀i b,i<n->(v i).ownBlock=some b->w'.heap[b]? = w.heap[b]?):Gr w' B R n v adj :=
 ⟨zJ h.lt hs,fun i hi=>(zR (a:=⟨R,i,none⟩) hR).trans (h.hd i hi),fun i=>(yW (a:=⟨R,i,none⟩) hR).trans (h.fr i),fun i hi=>by
   obtain⟨h1,h2⟩:=h.rows i hi;refine⟨h1,?_⟩
   rcases h2 with h2|⟨g,cap,cur,d,hg,hh,rest⟩
   .exact .inl h2
   exact .inr ⟨g,cap,cur,d,hg,(hv i g hi (by rw[d];rfl)).trans hh,rest⟩,h.apart,h.ne,h.lowR⟩
theorem Gr.kp(h:Gr w B R n v adj)(hk:Kp xs w w')(hR:R∉xs)(hv:∀i b,i<n->(v i).ownBlock=some b->b∉xs):Gr w' B R n v adj :=
 h.of_block hk.size (hk.block R h.lt hR) fun i b hi e=>hk.block b ((h.rows i hi).lt b e).2 (hv i b hi e)
theorem MapK.kp(h:MapK P k κ w b c f)(hk:Kp xs w w')(hb:b∉xs):MapK P k κ w' b c f:=h.block (hk.block b h.lt hb)
theorem Bk.kp(h:Bk w b t cs)(hk:Kp xs w w')(hb:b∉xs):Bk w' b t cs:=by
 have e:=hk.block b h.lt hb;exact(show w'.heap[b]? = _ from e.trans h)
structure LM(w:World)(B mb n c:Nat)(v:Nat->Value)(ls:Nat->List Nat):Prop where
 map:∃f:Int->Option Value,MapK Tryz.prog 3 κi w mb c f/\∀x:Nat,x<n->f (x:Int)=if ls x=[] then none else some (v x)
 nil:∀x,x<n->ls x=[]->v x=.slice none 0 0
 rows:∀x,x<n->w.ownsRow B 3 1 (v x) (ls x).length (Ca (ls x))
 apart:∀i j,i<n->j<n->i≠j->Uk (v i) (v j)
 ne:∀x,x<n->(v x).ownBlock≠some mb
theorem LM.lt(h:LM w B mb n c v ls):mb<w.heap.size:=by obtain⟨f,h,_⟩:=h.map;exact h.lt
theorem LM.grown{row:Option Nat}(h:LM w B mb n c v ls)(hg:w.grownBy w' row)(hm:row≠some mb)(hv:∀x b,x<n->(v x).ownBlock=some b->row≠some b):LM w' B mb n c v ls:=by
 obtain⟨f,h1,h2⟩:=h.map;refine⟨⟨f,h1.kept hg fun e=>hm e.symm,h2⟩,h.nil,fun x hx=>(h.rows x hx).kept hg ?_,h.apart,h.ne⟩
 cases hu:(v x).ownBlock with
 |none=>exact .inl rfl
 |some b=>exact .inr fun e=>hv x b hx hu e.symm
theorem LM.set(h:LM w B mb n c v ls){a:Addr}(u:Value)(hm:a.block≠mb)(hv:∀x,x<n->(v x).ownBlock≠some a.block):LM (w.setCell a u) B mb n c v ls :=
 h.grown (AD w a u) (fun e=>hm (Option.some.inj e)) fun x b hx e e2=>hv x hx (by rw[e,e2])
theorem LM.alloc(h:LM w B mb n c v ls)(o:Obj):LM (w.alloc o) B mb n c v ls:=h.grown (Lt w o none) (by simp) fun _ _ _ _=>by simp
theorem LM.drew(h:LM w B mb n c v ls):LM w.drew B mb n c v ls:=⟨h.map,h.nil,h.rows,h.apart,h.ne⟩
theorem LM.below(h:LM w B mb n c v ls)(hb:Below w.heap.size w w'):LM w' B mb n c v ls :=
 h.grown (row:=none) ⟨hb.os,hb.tape,hb.output,hb.size,fun k hk _=>hb.block k hk⟩ (by simp) fun _ _ _ _=>by simp
theorem LM.made(w:World)(B n:Nat):LM (w.alloc (.map #[] 0)) B w.heap.size n 0 (fun _=>.slice none 0 0) fun _=>[] :=
 ⟨⟨_,MapK.made w _ _ _,fun _ _=>(zG rfl).symm⟩,fun _ _ _=>rfl,fun _ _=>yU _ _ _ _,fun _ _ _ _ _ _ hb=>(by cases hb),fun _ _ h=>(by cases h)⟩
theorem Si(w:World):(zeroValue 26).run Tryz.prog w=.ok (.slice none 0 0) w:=by kernel_rfl
theorem LM.look(h:LM w B mb n c v ls){x:Nat}(hx:x<n)(hn:n<=1000):(Instr.lookup 106 (.map (some mb)) (.int .i64 (x:Int)) false).run Tryz.prog w=.ok (v x) w:=by
 obtain⟨f,h1,h2⟩:=h.map;have:=h1.look FI Tryz.underlying106 (Si w) (EG Tryz.underlying3 (a:=(x:Int)) (by omega) (by omega));rw[this,h2 x hx]
 by_cases e:ls x=[]
 .rw[zG e,h.nil x hx e];rfl
 rw[zF e];rfl
theorem LM.step(h:LM w B mb n c v ls){x q:Nat}(hx:x<n)(hn:n<=1000)(hc:c<maxLen){u:Value}(hg:w.grownBy w' (v x).ownBlock)(ho:w'.ownsRow B 3 1 u ((ls x).length+1) (Ca (ls x)++[.int .i64 (q:Int)]))(hu:u.ownBlock=(v x).ownBlock\/u.ownBlock=some w.heap.size):
 ∃w'',(Instr.mapUpdate 106 (.map (some mb)) (.int .i64 (x:Int)) u).run Tryz.prog w'=.ok () w''/\LM w'' B mb n (if ls x=[] then c+1 else c) (fun i=>if i=x then u else v i) (EJ ls x q)/\w'.grownBy w'' (some mb):=by
 obtain⟨f,h1,h2⟩:=h.map;have ae:some mb≠(v x).ownBlock:=fun e=>h.ne x hx e.symm;have aj:=h.lt
 have ah:u.ownBlock≠some mb:=fun e=>by
  rcases hu with hu|hu
  .exact ae (by rw[<-hu,e])
  rw[e]at hu;simp only[Option.some.injEq]at hu;omega
 obtain⟨w'',ag,hM,aa⟩:=(h1.kept hg ae).put Gy FI Tryz.underlying106 hc (EG Tryz.underlying3 (a:=(x:Int)) (by omega) (by omega)) u
 have d:∀i,i<n->i≠x->Uk (v i) u:=fun i hi ai b hb e=>by
  rcases hu with hu|hu
  .exact h.apart i x hi hx ai b hb (by rw[<-hu,e])
  have:=((h.rows i hi).lt b hb).2;rw[e]at hu;simp only[Option.some.injEq]at hu;omega
 have af:EJ ls x q x≠[]:=by simp[EJ]
 refine⟨w'',ag,⟨⟨Pe f (x:Int) (some u),?_,fun y hy=>?_⟩,fun y hy he=>?_,fun y hy=>?_,fun i j hi hj ad=>?_,fun y hy=>?_⟩,aa⟩
 .have e:(if (f (x:Int)).isSome then c else c+1)=if ls x=[] then c+1 else c:=by
   rw[h2 x hx]
   by_cases e:ls x=[]
   .rw[zG e,zG e];rfl
   rw[zF e,zF e];rfl
  rw[e]at hM;exact hM
 .by_cases e:y=x
  .subst e;rw[Cf,zF af,zG rfl]
  rw[BY (fun c=>e (by omega)),h2 y hy,zF e];have:EJ ls x q y=ls y:=zF e;rw[this]
 .by_cases e:y=x
  .subst e;exact absurd he af
  rw[zF e];have:EJ ls x q y=ls y:=zF e;rw[this]at he;exact h.nil y hy he
 .by_cases e:y=x
  .subst e;rw[zG rfl];have:EJ ls y q y=ls y++[q]:=zG rfl;rw[this,zX,FM];refine ho.kept aa ?_
   cases hv:u.ownBlock with
   |none=>exact .inl rfl
   |some b=>exact .inr fun c=>ah (by rw[hv,c])
  rw[zF e];have:EJ ls x q y=ls y:=zF e;rw[this];refine((h.rows y hy).kept hg ?_).kept aa ?_
  .cases hv:(v y).ownBlock with
   |none=>exact .inl rfl
   |some b=>exact .inr fun c=>h.apart y x hy hx e b hv c.symm
  cases hv:(v y).ownBlock with
  |none=>exact .inl rfl
  |some b=>exact .inr fun c=>h.ne y hy (by rw[hv,c])
 .by_cases e1:i=x
  .have e2:j≠x:=fun c=>ad (by rw[e1,c]);rw[zG e1,zF e2];exact fun b hb hc=>d j hj e2 b hc hb
  rw[zF e1]
  by_cases e2:j=x
  .rw[zG e2];exact d i hi e1
  rw[zF e2];exact h.apart i j hi hj ad
 by_cases e:y=x
 .rw[zG e];exact ah
 rw[zF e];exact h.ne y hy
theorem ET{W:World}{base n:Nat}{e:TypeId}{u:Value}{xs:List Value}(h:W.ownsRow base e 1 u n xs):∃A cap,u=.slice A n cap:=by
 rcases h.2 with⟨rfl,rfl⟩|⟨g,cap,_,rfl,_⟩
 .exact⟨none,0,rfl⟩
 exact⟨_,cap,rfl⟩
theorem Sj{xs:List Nat}{base m:Nat}{e:TypeId}{u:Value}{l:List Value}{w:World}(h:w.ownsRow base e 1 u m l)(hk:Kp xs w w')(hb:∀b,u.ownBlock=some b->b∉xs):w'.ownsRow base e 1 u m l:=by
 obtain⟨h1,h2⟩:=h;refine⟨h1,?_⟩
 rcases h2 with h2|⟨g,cap,cur,hv,hg,hh,rest⟩
 .exact .inl h2
 exact .inr ⟨g,cap,cur,hv,hg,(hk.block g (Array.getElem?_eq_some_iff.1 hh).1 (hb g (by rw[hv];rfl))).trans hh,rest⟩
structure RoI(w:World)(b n:Nat)(o:Nat->Int):Prop where
 lt:b<w.heap.size
 cell:∀x,x<n->w.cell? ⟨b,x,none⟩=some (.int .i64 (o x))
 fr:∀x,w.frozen? ⟨b,x,none⟩=false
theorem RoI.of_block{o:Nat->Int}(h:RoI w b n o)(hs:w.heap.size<=w'.heap.size)(hb:w'.heap[b]? = w.heap[b]?):RoI w' b n o :=
 ⟨zJ h.lt hs,fun x hx=>(zR (a:=⟨b,x,none⟩) hb).trans (h.cell x hx),fun x=>(yW (a:=⟨b,x,none⟩) hb).trans (h.fr x)⟩
theorem RoI.below{o:Nat->Int}(h:RoI w b n o)(hb:Below w.heap.size w w'):RoI w' b n o:=h.of_block hb.size (hb.block b h.lt)
theorem RoI.grown{o:Nat->Int}{row:Option Nat}(h:RoI w b n o)(hg:w.grownBy w' row)(hr:row≠some b):RoI w' b n o:=h.of_block hg.size (hg.block b h.lt fun e=>hr e.symm)
theorem RoI.alloc{o:Nat->Int}(h:RoI w b n o)(x:Obj):RoI (w.alloc x) b n o:=h.below ((zI _ w).alloc (zA _) x)
theorem RoI.set{o:Nat->Int}(h:RoI w b n o){x:Nat}(hx:x<n)(r:Int):RoI (w.setCell ⟨b,x,none⟩ (.int .i64 r)) b n (FC o x r):=by
 refine⟨by simpa using h.lt,fun y hy=>?_,fun y=>by simpa using h.fr y⟩
 by_cases e:y=x
 .subst e;rw[Bj];exact xH _ _ _ (h.cell y hy)
 rw[AK e,yl _ _ _ _ (fun c=>by injection c with _ c2;first|exact e c2|exact e c2.symm)];exact h.cell y hy
theorem RoI.made(w:World)(n:Nat)(t:TypeId):RoI (w.alloc (.cells (madeCells #[.int .i64 0] n) t)) w.heap.size n fun _=>0:=by
 have h:=yM w (.cells (madeCells #[(.int .i64 0:Value)] n) t);refine⟨by simp,fun x hx=>?_,fun x=>by simp only[World.frozen?,h];simp⟩;simp only[World.cell?,h];simp[madeCells,hx];rw[wC];rfl
theorem RoI.of_row{r:Int}{t:TypeId}(h:w.heap[b]? = some (.cells (List.replicate n (.int .i64 r)).toArray t (0,0))):RoI w b n fun _=>r:=by
 refine⟨(Array.getElem?_eq_some_iff.1 h).1,fun x hx=>?_,fun x=>by simp[World.frozen?,h]⟩;simp[World.cell?,h,hx]
theorem RoI.congr{o o':Nat->Int}(h:RoI w b n o)(e:∀x,x<n->o x=o' x):RoI w b n o':=⟨h.lt,fun x hx=>by rw[<-e x hx];exact h.cell x hx,h.fr⟩
theorem RoI.inInt{o:Nat->Int}(h:RoI w b n o):InInt w (some ⟨b,0,none⟩) ((List.range n).map o):=fun _=>⟨b,0,rfl,h.lt,fun j hj=>by
 have a:j<n:=by simpa using hj
 rw[yD,h.cell j a];simp⟩
end
end Ci
end
section
open Go.RowKit Go.Shelf
namespace Sh
open Nt Ci
def Nb(k:Nat):Code->Bool
 |.region a _ _=>a==k
 |_=>false
theorem Oj(s x y:Rat)(hs:ShortQ s)(hx:ShortQ x)(hy:ShortQ y)(a:ShortQ (x*y))(w:World)(hE:Env w):
 Calls Tryz.prog 85 #[.agg #[.bool (rq s).1,.string (rq s).2.1,.string (rq s).2.2],.agg #[.bool (rq x).1,.string (rq x).2.1,.string (rq x).2.2],.agg #[.bool (rq y).1,.string (rq y).2.1,.string (rq y).2.2]] w fun e w'=>e=.returned (.agg #[.bool (rq (s+x*y)).1,.string (rq (s+x*y)).2.1,.string (rq (s+x*y)).2.2])/\Below w.heap.size w w' :=
 MR s x y hs hx hy a w hE
noncomputable def bdR(j:Nat):Code:=((Tryz.f44.body.map Ci.BB).bind fun l=>l.find? (Nb j)).getD .skip
theorem WG{c0 c1 c2 c3 c4 c5 c7 c8 au av aw ax ay az aA aB aC aD aE aF aG aH aI aJ aK aL aM aN aO aP aQ aR aS aT aU aV aW aX aY aZ a0 a1 a2 a3 a4 a5 a6 a7 a8 a9 ba bb bd be bf bg bh bi bj bk bm bn bo bp bq br bs bt bu bv bw bx bz bA bB bC bD bE bF bG bH bI bJ bK bL ai aj ak al am an ao aq bM bN bO bP bQ bR bS bT bU bW bX:Value}{Q:Exit->Act->World->Prop}(mnb rb lb m k:Nat)(r:Nat->Raw)(q Ai:Rat)(c0v c1v:Value)(w:World)(hE:Env w)(hk:k<m)(_hm:m<=1000)(hr:RowB w rb m r)(b0:r k=rq q)(ae:Bk w mnb 34 [.bool (rq (-1)).1,.string (rq (-1)).2.1,.string (rq (-1)).2.2])(hl:Bk w lb 55 [c0v,c1v,.bool (rq Ai).1,.string (rq Ai).2.1,.string (rq Ai).2.2])(n1:rb≠mnb)(n2:rb≠lb)(h1:ShortQ q)(h2:ShortQ Ai)(h3:ShortQ (-1*Ai))
 (h:∀(u67 u68 u69 u70 u71 u72 u73 u74 u75 u76 u77:Value)(W:World)(_:Hid (RowB W rb m fun j=>if j=k then rq (q+-1*Ai) else r j))(_:Hid (Kp [rb] w W)),Q .normal ⟨#[c0,c1,c2,c3,c4,c5,.pointer (some ⟨mnb,0,none⟩),c7,c8,.slice (some ⟨rb,0,none⟩) m m,au,av,aw,.pointer (some ⟨lb,0,none⟩),.int .i64 (k:Int),ax,ay,az,aA,aB,aC,aD,aE,aF,aG,aH,aI,aJ,aK,aL,aM,aN,aO,aP,aQ,aR,aS,aT,aU,aV,aW,aX,aY,aZ,a0,a1,a2,a3,a4,a5,a6,a7,a8,a9,ba,bb,bd,be,bf,bg,bh,bi,bj,bk,bm,bn,bo,u67,u68,u69,u70,u71,u72,u73,u74,u75,u76,u77,bp,bq,br,bs,bt,bu,bv,bw,bx,bz,bA,bB,bC,bD,bE,bF,bG,bH,bI,bJ,bK,bL,ai,aj,ak,al,am,an,ao,aq],[]⟩ W):
 Code.wp Tryz.prog (bdR 19) Q ⟨#[c0,c1,c2,c3,c4,c5,.pointer (some ⟨mnb,0,none⟩),c7,c8,.slice (some ⟨rb,0,none⟩) m m,au,av,aw,.pointer (some ⟨lb,0,none⟩),.int .i64 (k:Int),ax,ay,az,aA,aB,aC,aD,aE,aF,aG,aH,aI,aJ,aK,aL,aM,aN,aO,aP,aQ,aR,aS,aT,aU,aV,aW,aX,aY,aZ,a0,a1,a2,a3,a4,a5,a6,a7,a8,a9,ba,bb,bd,be,bf,bg,bh,bi,bj,bk,bm,bn,bo,bM,bN,bO,bP,bQ,bR,bS,bT,bU,bW,bX,bp,bq,br,bs,bt,bu,bv,bw,bx,bz,bA,bB,bC,bD,bE,bF,bG,bH,bI,bJ,bK,bL,ai,aj,ak,al,am,an,ao,aq],[]⟩ w:=by
 conv=>arg 2;whnf
 conv=>arg 4;zeta
 replace h:=zh h;have ag:Hid (Below w.heap.size w w.drew):=(zI _ w).drew;have kp:=zh (fun W hW=>Oj q (-1) Ai h1 (by decide +kernel) h2 h3 W hW);have ar:Hid (RowB w.drew rb m r):=hr;have rl:=hr.lt;have ah:Hid (∀W,Below w.heap.size w W->W.cell? ⟨mnb,0,none⟩=some (.bool (rq (-1)).1)/\W.cell? ⟨mnb,1,none⟩=some (.string (rq (-1)).2.1)/\W.cell? ⟨mnb,2,none⟩=some (.string (rq (-1)).2.2)/\W.cell? ⟨lb,2,none⟩=some (.bool (rq Ai).1)/\W.cell? ⟨lb,3,none⟩=some (.string (rq Ai).2.1)/\W.cell? ⟨lb,4,none⟩=some (.string (rq Ai).2.2)):=fun W h=>⟨(ae.below h).c0,(ae.below h).c1,(ae.below h).c2,(hl.below h).c2,(hl.below h).c3,(hl.below h).c4⟩;have j0:(0:Int)<=(k:Int):=by omega
 have j1:(k:Int)<(m:Int):=by omega
 replace hE:=zh hE;replace hr:=zh hr;replace ae:=zh ae;replace hl:=zh hl;clear h1 h2 h3;refine xf ?_;refine xR (S:=fun W=>W.cell? ⟨mnb,0,none⟩=some (.bool (rq (-1)).1)/\W.cell? ⟨mnb,1,none⟩=some (.string (rq (-1)).2.1)/\W.cell? ⟨mnb,2,none⟩=some (.string (rq (-1)).2.2)/\W.cell? ⟨lb,2,none⟩=some (.bool (rq Ai).1)/\W.cell? ⟨lb,3,none⟩=some (.string (rq Ai).2.1)/\W.cell? ⟨lb,4,none⟩=some (.string (rq Ai).2.2)) (by kernel_rfl) (ah.o _ ag.o) (fun aa=>?_);replace aa:=zh aa;refine tkeE (v:=?_) 0 rfl (aa.o) (Or.inl ⟨by rfl,?_⟩) ?_;rotate_left
 . (intro w d;obtain⟨q1,q2,q3,q4,q5,q6⟩:=d;go_simp<;>with_reducible rfl)
 try simp only[Act.put,zB]
 refine tkeE (v:=?_) 1 rfl (aa.o) (Or.inl ⟨by rfl,?_⟩) ?_;rotate_left
 . (intro w d;obtain⟨q1,q2,q3,q4,q5,q6⟩:=d;go_simp<;>with_reducible rfl)
 try simp only[Act.put]
 refine tkeE (v:=?_) 2 rfl (aa.o) (Or.inl ⟨by rfl,?_⟩) ?_;rotate_left
 . (intro w d;obtain⟨q1,q2,q3,q4,q5,q6⟩:=d;go_simp<;>with_reducible rfl)
 try simp only[Act.put]
 refine tkeE (v:=?_) 3 rfl (aa.o) (Or.inl ⟨by rfl,?_⟩) ?_;rotate_left
 . (intro w d;obtain⟨q1,q2,q3,q4,q5,q6⟩:=d;go_simp<;>with_reducible rfl)
 try simp only[Act.put]
 refine tkeE (v:=?_) 4 rfl (aa.o) (Or.inl ⟨by rfl,?_⟩) ?_;rotate_left
 . (intro w d;obtain⟨q1,q2,q3,q4,q5,q6⟩:=d;go_simp<;>with_reducible rfl)
 try simp only[Act.put]
 refine tkeE (v:=?_) 6 rfl (aa.o) (Or.inl ⟨by rfl,?_⟩) ?_;rotate_left
 . (intro w d;obtain⟨q1,q2,q3,q4,q5,q6⟩:=d;go_simp<;>with_reducible rfl)
 try simp only[Act.put]
 refine tkeE (v:=?_) 7 rfl (aa.o) (Or.inl ⟨by rfl,?_⟩) ?_;rotate_left
 . (intro w d;obtain⟨q1,q2,q3,q4,q5,q6⟩:=d;go_simp<;>with_reducible rfl)
 try simp only[Act.put]
 refine tkeE (v:=?_) 8 rfl (aa.o) (Or.inl ⟨by rfl,?_⟩) ?_;rotate_left
 . (intro w d;obtain⟨q1,q2,q3,q4,q5,q6⟩:=d;go_simp<;>with_reducible rfl)
 try simp only[Act.put]
 obtain⟨r1,r2,r3⟩:=ar.o.cell hk;rw[b0]at r1 r2 r3;have b1:=ar.o.lt;refine zT (rs:=[5]) (by kernel_rfl) (by simp) ?_;refine zL (o:=_) rfl (fun K hK=>?_) ?_
 .go_simp;clear r1 r2 r3;refine hK.o _ _ (ah.o _ ag.o) (fun _=>?_);clear hK K
  try simp only[Act.put,zB,zE,zC]
  refine zT (rs:=[9]) (by kernel_rfl) (by simp) ?_;refine zL (o:=_) rfl (fun K hK=>?_) ?_
  .go_simp;refine(kp.o _ (hE.o.below ag.o)).mono ?_;rintro e W2 ⟨rfl,hb⟩;have ad:Hid (Below w.heap.size w W2):=ag.o.trans (hb.mono ag.o.size);have af:Hid (RowB W2 rb m r):=ar.o.below hb b1;clear hb;refine hK.o _ _ (ah.o _ ad.o) (fun _=>?_);clear hK K
   try simp only[Act.put,zB,zE,zC]
   refine tkeE (v:=?_) 10 rfl (ah.o _ ad.o) (Or.inl ⟨by rfl,?_⟩) ?_;rotate_left
   . (intro w d;obtain⟨q1,q2,q3,q4,q5,q6⟩:=d;go_simp<;>with_reducible rfl)
   try simp only[Act.put,zB]
   obtain⟨r1,r2,r3⟩:=af.o.cell hk;have f1:=af.o.frozen (k*3);have f2:=af.o.frozen (k*3+1);have f3:=af.o.frozen (k*3+2);have b2:=af.o.lt;have bZ:Hid (RowB (((W2.setCell ⟨rb,k*3,none⟩ (.bool (rq (q+-1*Ai)).1)).setCell ⟨rb,k*3+1,none⟩ (.string (rq (q+-1*Ai)).2.1)).setCell ⟨rb,k*3+2,none⟩ (.string (rq (q+-1*Ai)).2.2)) rb m fun j=>if j=k then rq (q+-1*Ai) else r j):=af.o.set hk _;have bY:Hid (Kp [rb] w (((W2.setCell ⟨rb,k*3,none⟩ (.bool (rq (q+-1*Ai)).1)).setCell ⟨rb,k*3+1,none⟩ (.string (rq (q+-1*Ai)).2.1)).setCell ⟨rb,k*3+2,none⟩ (.string (rq (q+-1*Ai)).2.2))):=((((Kp.refl [rb] w).below ad.o).set (a:=⟨rb,k*3,none⟩) _ (.inl (by simp))).set (a:=⟨rb,k*3+1,none⟩) _ (.inl (by simp))).set (a:=⟨rb,k*3+2,none⟩) _ (.inl (by simp));refine zT (rs:=[11]) (by kernel_rfl) (by simp) ?_;refine zL (o:=_) rfl (fun K hK=>?_) ?_
   .go_simp;refine hK.o _ _ (⟨((((ae.o.below ad.o).far (p:=⟨rb,k*3,none⟩) n1.symm _).far (p:=⟨rb,k*3+1,none⟩) n1.symm _).far (p:=⟨rb,k*3+2,none⟩) n1.symm _).c0,((((ae.o.below ad.o).far (p:=⟨rb,k*3,none⟩) n1.symm _).far (p:=⟨rb,k*3+1,none⟩) n1.symm _).far (p:=⟨rb,k*3+2,none⟩) n1.symm _).c1,((((ae.o.below ad.o).far (p:=⟨rb,k*3,none⟩) n1.symm _).far (p:=⟨rb,k*3+1,none⟩) n1.symm _).far (p:=⟨rb,k*3+2,none⟩) n1.symm _).c2,((((hl.o.below ad.o).far (p:=⟨rb,k*3,none⟩) n2.symm _).far (p:=⟨rb,k*3+1,none⟩) n2.symm _).far (p:=⟨rb,k*3+2,none⟩) n2.symm _).c2,((((hl.o.below ad.o).far (p:=⟨rb,k*3,none⟩) n2.symm _).far (p:=⟨rb,k*3+1,none⟩) n2.symm _).far (p:=⟨rb,k*3+2,none⟩) n2.symm _).c3,((((hl.o.below ad.o).far (p:=⟨rb,k*3,none⟩) n2.symm _).far (p:=⟨rb,k*3+1,none⟩) n2.symm _).far (p:=⟨rb,k*3+2,none⟩) n2.symm _).c4⟩) (fun _=>?_);clear hK K
    try simp only[Act.put,zB,zE,zC]
    refine xZ (by kernel_rfl) ?_ _;refine xM ?_;exact h.o _ _ _ _ _ _ _ _ _ _ _ _ bZ bY
   exact zQ
  exact zQ
 exact zQ
theorem WH{c0 c1 c3 c4 c5 c6 c7 c8 c9 ax ay az aA aB aC aD aE aF aG aH aI aJ aK aL aM aN aO aP aQ aR aS aT aU aV aW aX aY aZ a0 a1 a2 a3 a4 a5 a6 a7 a8 a9 ba bb bd be bf bg bh bi bj bk bm bn bo bp bq br bs bt bu bv bw bx bz bA bB bC bD bE bF bG bH bI bJ bK bL bM bN bO bP bQ bR ak al am an ao aq ar au a78 a79 bS bT bU bW bX bY:Value}{Q:Exit->Act->World->Prop}(gb lb vb:Nat)(hh:Int)(r0 Ai v:Rat)(c0v:Value)(w:World)(hE:Env w)(hg:Bk w gb 34 [.bool (rq r0).1,.string (rq r0).2.1,.string (rq r0).2.2])(hl:Bk w lb 55 [c0v,.int .i64 hh,.bool (rq Ai).1,.string (rq Ai).2.1,.string (rq Ai).2.2])(n1:gb≠lb)(h1:ShortQ r0)(h2:ShortQ Ai)(h3:ShortQ v)(h4:ShortQ (Ai*v))(kv:∀W,Below w.heap.size w W->Calls Tryz.prog 43 #[.int .i64 hh,.pointer (some ⟨vb,0,none⟩)] W fun e w'=>e=.returned (.agg #[.bool (rq v).1,.string (rq v).2.1,.string (rq v).2.2])/\Below W.heap.size W w')
 (h:∀(u78 u79 u80 u81 u82 u83 u84 u85:Value)(W:World)(_:Hid (Bk W gb 34 [.bool (rq (r0+Ai*v)).1,.string (rq (r0+Ai*v)).2.1,.string (rq (r0+Ai*v)).2.2]))(_:Hid (Kp [gb] w W)),Q .normal ⟨#[c0,c1,.func (.func 43) #[] #[.pointer (some ⟨vb,0,none⟩)],c3,c4,c5,c6,c7,c8,c9,ax,.pointer (some ⟨gb,0,none⟩),ay,.pointer (some ⟨lb,0,none⟩),az,aA,aB,aC,aD,aE,aF,aG,aH,aI,aJ,aK,aL,aM,aN,aO,aP,aQ,aR,aS,aT,aU,aV,aW,aX,aY,aZ,a0,a1,a2,a3,a4,a5,a6,a7,a8,a9,ba,bb,bd,be,bf,bg,bh,bi,bj,bk,bm,bn,bo,bp,bq,br,bs,bt,bu,bv,bw,bx,bz,bA,bB,bC,bD,u78,u79,u80,u81,u82,u83,u84,u85,bE,bF,bG,bH,bI,bJ,bK,bL,bM,bN,bO,bP,bQ,bR,ak,al,am,an,ao,aq,ar,au],[]⟩ W):
 Code.wp Tryz.prog (bdR 20) Q ⟨#[c0,c1,.func (.func 43) #[] #[.pointer (some ⟨vb,0,none⟩)],c3,c4,c5,c6,c7,c8,c9,ax,.pointer (some ⟨gb,0,none⟩),ay,.pointer (some ⟨lb,0,none⟩),az,aA,aB,aC,aD,aE,aF,aG,aH,aI,aJ,aK,aL,aM,aN,aO,aP,aQ,aR,aS,aT,aU,aV,aW,aX,aY,aZ,a0,a1,a2,a3,a4,a5,a6,a7,a8,a9,ba,bb,bd,be,bf,bg,bh,bi,bj,bk,bm,bn,bo,bp,bq,br,bs,bt,bu,bv,bw,bx,bz,bA,bB,bC,bD,a78,a79,bS,bT,bU,bW,bX,bY,bE,bF,bG,bH,bI,bJ,bK,bL,bM,bN,bO,bP,bQ,bR,ak,al,am,an,ao,aq,ar,au],[]⟩ w:=by
 conv=>arg 2;whnf
 conv=>arg 4;zeta
 replace h:=zh h;have af:Hid (Below w.heap.size w w.drew):=(zI _ w).drew;have kp:=zh (fun W hW=>Oj r0 Ai v h1 h2 h3 h4 W hW);have aj:Hid (Bk w.drew gb 34 [.bool (rq r0).1,.string (rq r0).2.1,.string (rq r0).2.2]):=hg.below (zI _ w).drew;have gl:=hg.lt;have ah:Hid (∀W,Below w.heap.size w W->W.cell? ⟨lb,1,none⟩=some (.int .i64 hh)/\W.cell? ⟨lb,2,none⟩=some (.bool (rq Ai).1)/\W.cell? ⟨lb,3,none⟩=some (.string (rq Ai).2.1)/\W.cell? ⟨lb,4,none⟩=some (.string (rq Ai).2.2)):=fun W hb=>⟨(hl.below hb).c1,(hl.below hb).c2,(hl.below hb).c3,(hl.below hb).c4⟩;replace hE:=zh hE;replace hg:=zh hg;replace hl:=zh hl;replace kv:=zh kv;clear h1 h2 h3 h4;refine xf ?_;refine xR (S:=fun W=>W.cell? ⟨lb,1,none⟩=some (.int .i64 hh)/\W.cell? ⟨lb,2,none⟩=some (.bool (rq Ai).1)/\W.cell? ⟨lb,3,none⟩=some (.string (rq Ai).2.1)/\W.cell? ⟨lb,4,none⟩=some (.string (rq Ai).2.2)) (by kernel_rfl) (ah.o _ af.o) (fun ag=>?_);replace ag:=zh ag;refine tkeE (v:=?_) 1 rfl (ag.o) (Or.inl ⟨by rfl,?_⟩) ?_;rotate_left
 . (intro w ae;obtain⟨q1,q2,q3,q4⟩:=ae;go_simp<;>with_reducible rfl)
 try simp only[Act.put,zB]
 refine tkeE (v:=?_) 2 rfl (ag.o) (Or.inl ⟨by rfl,?_⟩) ?_;rotate_left
 . (intro w ae;obtain⟨q1,q2,q3,q4⟩:=ae;go_simp<;>with_reducible rfl)
 try simp only[Act.put]
 refine tkeE (v:=?_) 3 rfl (ag.o) (Or.inl ⟨by rfl,?_⟩) ?_;rotate_left
 . (intro w ae;obtain⟨q1,q2,q3,q4⟩:=ae;go_simp<;>with_reducible rfl)
 try simp only[Act.put]
 refine tkeE (v:=?_) 4 rfl (ag.o) (Or.inl ⟨by rfl,?_⟩) ?_;rotate_left
 . (intro w ae;obtain⟨q1,q2,q3,q4⟩:=ae;go_simp<;>with_reducible rfl)
 try simp only[Act.put]
 refine tkeE (v:=?_) 5 rfl (ag.o) (Or.inl ⟨by rfl,?_⟩) ?_;rotate_left
 . (intro w ae;obtain⟨q1,q2,q3,q4⟩:=ae;go_simp<;>with_reducible rfl)
 try simp only[Act.put]
 refine zT (rs:=[0,6]) (by kernel_rfl) (by simp) ?_;have t1:=aj.o.c0;have t2:=aj.o.c1;have t3:=aj.o.c2;have t7:=aj.o.lt;refine zL (o:=_) rfl (fun K hK=>?_) ?_
 .go_simp;clear t1 t2 t3 t7;refine hK.o _ _ (ah.o _ af.o) (fun _=>?_);clear hK K
  try simp only[Act.put,zB,zE,zC]
  refine zT (rs:=[6]) (by kernel_rfl) (by simp) ?_;refine zL (o:=_) rfl (fun K hK=>?_) ?_
  .go_simp;refine(kv.o _ af.o).mono ?_;rintro e W2 ⟨rfl,hb⟩;have ad:Hid (Below w.heap.size w W2):=af.o.trans (hb.mono af.o.size);have ai:=zh (aj.o.below hb);clear hb;refine hK.o _ _ (ah.o _ ad.o) (fun _=>?_);clear hK K
   try simp only[Act.put,zB,zE,zC]
   refine zT (rs:=[7]) (by kernel_rfl) (by simp) ?_;refine zL (o:=_) rfl (fun K hK=>?_) ?_
   .go_simp;refine(kp.o _ (hE.o.below ad.o)).mono ?_;rintro e W3 ⟨rfl,hb⟩;have aa:Hid (Below w.heap.size w W3):=ad.o.trans (hb.mono ad.o.size);have d:=zh (ai.o.below hb);clear hb;refine hK.o _ _ (ah.o _ aa.o) (fun _=>?_);clear hK K
    try simp only[Act.put,zB,zE,zC]
    have aw:Hid (Bk (((W3.setCell ⟨gb,0,none⟩ (.bool (rq (r0+Ai*v)).1)).setCell ⟨gb,1,none⟩ (.string (rq (r0+Ai*v)).2.1)).setCell ⟨gb,2,none⟩ (.string (rq (r0+Ai*v)).2.2)) gb 34 [.bool (rq (r0+Ai*v)).1,.string (rq (r0+Ai*v)).2.1,.string (rq (r0+Ai*v)).2.2]):=((d.o.set 0 (.bool (rq (r0+Ai*v)).1)).set 1 (.string (rq (r0+Ai*v)).2.1)).set 2 (.string (rq (r0+Ai*v)).2.2);have av:Hid (Kp [gb] w (((W3.setCell ⟨gb,0,none⟩ (.bool (rq (r0+Ai*v)).1)).setCell ⟨gb,1,none⟩ (.string (rq (r0+Ai*v)).2.1)).setCell ⟨gb,2,none⟩ (.string (rq (r0+Ai*v)).2.2))):=((((Kp.refl [gb] w).below aa.o).set (a:=⟨gb,0,none⟩) _ (.inl (by simp))).set (a:=⟨gb,1,none⟩) _ (.inl (by simp))).set (a:=⟨gb,2,none⟩) _ (.inl (by simp));have t1:=d.o.c0;have t2:=d.o.c1;have t3:=d.o.c2;have t4:=d.o.frozen 0;have t5:=d.o.frozen 1;have t6:=d.o.frozen 2;have t7:=d.o.lt;refine zT (rs:=[8]) (by kernel_rfl) (by simp) ?_;refine zL (o:=_) rfl (fun K hK=>?_) ?_
    .go_simp;refine hK.o _ _ (⟨((((hl.o.below aa.o).far (p:=⟨gb,0,none⟩) n1.symm _).far (p:=⟨gb,1,none⟩) n1.symm _).far (p:=⟨gb,2,none⟩) n1.symm _).c1,((((hl.o.below aa.o).far (p:=⟨gb,0,none⟩) n1.symm _).far (p:=⟨gb,1,none⟩) n1.symm _).far (p:=⟨gb,2,none⟩) n1.symm _).c2,((((hl.o.below aa.o).far (p:=⟨gb,0,none⟩) n1.symm _).far (p:=⟨gb,1,none⟩) n1.symm _).far (p:=⟨gb,2,none⟩) n1.symm _).c3,((((hl.o.below aa.o).far (p:=⟨gb,0,none⟩) n1.symm _).far (p:=⟨gb,1,none⟩) n1.symm _).far (p:=⟨gb,2,none⟩) n1.symm _).c4⟩) (fun _=>?_);clear hK K
     try simp only[Act.put,zB,zE,zC]
     refine xZ (by kernel_rfl) ?_ _;refine xM ?_;exact h.o _ _ _ _ _ _ _ _ _ aw av
    exact zQ
   exact zQ
  exact zQ
 clear t1 t2 t3 t7;refine zL (o:=_) rfl (fun K hK=>?_) ?_
 .go_simp;refine(kv.o _ af.o).mono ?_;rintro e W2 ⟨rfl,hb⟩;have ad:Hid (Below w.heap.size w W2):=af.o.trans (hb.mono af.o.size);have ai:=zh (aj.o.below hb);clear hb;refine hK.o _ _ (ah.o _ ad.o) (fun _=>?_);clear hK K
  try simp only[Act.put,zB,zE,zC]
  refine zT (rs:=[0]) (by kernel_rfl) (by simp) ?_;have t1:=ai.o.c0;have t2:=ai.o.c1;have t3:=ai.o.c2;have t7:=ai.o.lt;refine zL (o:=_) rfl (fun K hK=>?_) ?_
  .go_simp;clear t1 t2 t3 t7;refine hK.o _ _ (ah.o _ ad.o) (fun _=>?_);clear hK K
   try simp only[Act.put,zB,zE,zC]
   refine zT (rs:=[7]) (by kernel_rfl) (by simp) ?_;refine zL (o:=_) rfl (fun K hK=>?_) ?_
   .go_simp;refine(kp.o _ (hE.o.below ad.o)).mono ?_;rintro e W3 ⟨rfl,hb⟩;have aa:Hid (Below w.heap.size w W3):=ad.o.trans (hb.mono ad.o.size);have d:=zh (ai.o.below hb);clear hb;refine hK.o _ _ (ah.o _ aa.o) (fun _=>?_);clear hK K
    try simp only[Act.put,zB,zE,zC]
    have aw:Hid (Bk (((W3.setCell ⟨gb,0,none⟩ (.bool (rq (r0+Ai*v)).1)).setCell ⟨gb,1,none⟩ (.string (rq (r0+Ai*v)).2.1)).setCell ⟨gb,2,none⟩ (.string (rq (r0+Ai*v)).2.2)) gb 34 [.bool (rq (r0+Ai*v)).1,.string (rq (r0+Ai*v)).2.1,.string (rq (r0+Ai*v)).2.2]):=((d.o.set 0 (.bool (rq (r0+Ai*v)).1)).set 1 (.string (rq (r0+Ai*v)).2.1)).set 2 (.string (rq (r0+Ai*v)).2.2);have av:Hid (Kp [gb] w (((W3.setCell ⟨gb,0,none⟩ (.bool (rq (r0+Ai*v)).1)).setCell ⟨gb,1,none⟩ (.string (rq (r0+Ai*v)).2.1)).setCell ⟨gb,2,none⟩ (.string (rq (r0+Ai*v)).2.2))):=((((Kp.refl [gb] w).below aa.o).set (a:=⟨gb,0,none⟩) _ (.inl (by simp))).set (a:=⟨gb,1,none⟩) _ (.inl (by simp))).set (a:=⟨gb,2,none⟩) _ (.inl (by simp));have t1:=d.o.c0;have t2:=d.o.c1;have t3:=d.o.c2;have t4:=d.o.frozen 0;have t5:=d.o.frozen 1;have t6:=d.o.frozen 2;have t7:=d.o.lt;refine zT (rs:=[8]) (by kernel_rfl) (by simp) ?_;refine zL (o:=_) rfl (fun K hK=>?_) ?_
    .go_simp;refine hK.o _ _ (⟨((((hl.o.below aa.o).far (p:=⟨gb,0,none⟩) n1.symm _).far (p:=⟨gb,1,none⟩) n1.symm _).far (p:=⟨gb,2,none⟩) n1.symm _).c1,((((hl.o.below aa.o).far (p:=⟨gb,0,none⟩) n1.symm _).far (p:=⟨gb,1,none⟩) n1.symm _).far (p:=⟨gb,2,none⟩) n1.symm _).c2,((((hl.o.below aa.o).far (p:=⟨gb,0,none⟩) n1.symm _).far (p:=⟨gb,1,none⟩) n1.symm _).far (p:=⟨gb,2,none⟩) n1.symm _).c3,((((hl.o.below aa.o).far (p:=⟨gb,0,none⟩) n1.symm _).far (p:=⟨gb,1,none⟩) n1.symm _).far (p:=⟨gb,2,none⟩) n1.symm _).c4⟩) (fun _=>?_);clear hK K
     try simp only[Act.put,zB,zE,zC]
     refine xZ (by kernel_rfl) ?_ _;refine xM ?_;exact h.o _ _ _ _ _ _ _ _ _ aw av
    exact zQ
   exact zQ
  exact zQ
 exact zQ
theorem Kd{W:World}{b:Nat}{v:Value}(h:W.cell? ⟨b,0,none⟩=some v):∀j u,[v][j]? = some u->W.cell? ((⟨b,0,none⟩:Addr).add j)=some u:=by
 intro j u hj
 match j,hj with
 |0,hj=>simp only[zm,Option.some.injEq]at hj;subst hj;simpa [Addr.add] using h
 |j+1,hj=>simp at hj
theorem Sk{W:World}{b:Nat}{x y z:Value}(h0:W.cell? ⟨b,0,none⟩=some x)(h1:W.cell? ⟨b,1,none⟩=some y)(h2:W.cell? ⟨b,2,none⟩=some z):∀j u,[x,y,z][j]? = some u->W.cell? ((⟨b,0,none⟩:Addr).add j)=some u:=by
 intro j u hj
 match j,hj with
 |0,hj=>simp at hj;subst hj;simpa [Addr.add] using h0
 |1,hj=>simp at hj;subst hj;simpa [Addr.add] using h1
 |2,hj=>simp at hj;subst hj;simpa [Addr.add] using h2
 |j+3,hj=>simp at hj
theorem PA{P:Program}{md:Region.Mode}{ops:Array Oper}{Q:Exit->Act->World->Prop}{S:World->Prop}{n:Nat}{l:Array Bool}{a:Act}{w:World}
 (h:∀F:Nat->Array Bool->Act->World->Prop,F=wpAnyH P md ops Q S->F n l a w):wpAnyH P md ops Q S n l a w:=h _ rfl
theorem V7{F:Nat->Array Bool->Act->World->Prop}{n n':Nat}{l l':Array Bool}{a a':Act}{w:World}(hn:n'=n)(hl:l'=l)(ha:a'=a)(h:F n l a w):F n' l' a' w:=by rw[hn,hl,ha];exact h
theorem El{W:World}{base n m:Nat}{e:TypeId}{u:Value}{xs:List Value}(h:W.ownsRow base e m u n xs):∃A cap,u=.slice A n cap:=by
 rcases h.2 with⟨rfl,h0⟩|⟨g,cap,cur,rfl,_⟩
 .exact⟨none,0,by rw[h0]⟩
 exact⟨_,cap,rfl⟩
structure G22(xb gb:Nat)(uv:Value)(Aa Ab:Option Addr)(i ca cb:Nat)(x:Raw)(w W:World):Prop where
 k:Kp (xb::((Value.slice Aa i ca).ownBlock.toList++(Value.slice Ab i cb).ownBlock.toList)) w W
 y:Bk W xb 79 [uv,.slice Aa i ca,.slice Ab i cb]
 b:Bk W gb 34 [.bool x.1,.string x.2.1,.string x.2.2]
theorem G22.alloc{xb gb:Nat}{uv:Value}{Aa Ab:Option Addr}{i ca cb:Nat}{x:Raw}{w W:World}(h:G22 xb gb uv Aa Ab i ca cb x w W)(o:Obj):G22 xb gb uv Aa Ab i ca cb x w (W.alloc o):=⟨h.k.alloc o,h.y.alloc o,h.b.alloc o⟩
theorem Aj{W:World}{b:Nat}{t:TypeId}{v0 v1 v2:Value}(h:Bk W b t [v0,v1,v2]):W.cell? ⟨b,0,none⟩=some v0/\W.cell? ⟨b,1,none⟩=some v1/\W.cell? ⟨b,2,none⟩=some v2:=⟨h.c0,h.c1,h.c2⟩
theorem Iv{x:Nat}{w W W':World}{L:List Nat}{o:Option Nat}(h:Kp (x::L) w W)(hg:W.grownBy W' o)(hl:∀b,o=some b->b∈L\/w.heap.size<=b):Kp (x::L) w W' :=
 h.grown hg fun b e=>(hl b e).imp (zj _) id
theorem WI{c1 c2 c3 c4 c5 c6 c7 c8 aN aO aP ad aQ aR aS aT aU aV aW aX aY aZ a0 a1 a2 a3 a4 a5 a6 a7 a8 a9 ba bb bd be bf bg bh bi bj bk bm bn bo bp bq br bs bt bu bv bw bx bz bA bB bC bD bE bF bG bH bI bJ bK bL bM bN bO bP bQ bR bS bT bU bW bX bY bZ b0 b1 b2 b3 aF ce cf a89 cg ch ay ci az an cj ck cl av b6 am ag aJ aK aL aM:Value}{Q:Exit->Act->World->Prop}(xb gb rb m i ca cb B1:Nat)(Aa Ab:Option Addr)(uv:Value)(aj cbs:List Value)(x:Raw)(w:World)(hi:i<=1000)(hx:Bk w xb 79 [uv,.slice Aa i ca,.slice Ab i cb])(hb:Bk w gb 34 [.bool x.1,.string x.2.1,.string x.2.2])(ngx:gb≠xb)(aC:B1<=w.heap.size)(b9:xb<B1)(oa:w.ownsRow B1 27 1 (Value.slice Aa i ca) i aj)(ob:w.ownsRow B1 34 3 (Value.slice Ab i cb) i cbs)(ap:∀b,(Value.slice Aa i ca).ownBlock=some b->(Value.slice Ab i cb).ownBlock≠some b)(nga:(Value.slice Aa i ca).ownBlock≠some gb)(ngb:(Value.slice Ab i cb).ownBlock≠some gb)
 (h:∀(u87 u88 u89 u90 u91 u92 u93 u94 u95 u96 u97 u98 u99 u100 u101 u102 u103 u104 u105 u106:Value)(Aa2 Ab2:Option Addr)(af ak:Nat)(W:World)(_:Hid (Kp (xb::((Value.slice Aa i ca).ownBlock.toList++(Value.slice Ab i cb).ownBlock.toList)) w W))(_:Hid (Bk W xb 79 [uv,.slice Aa2 (i+1) af,.slice Ab2 (i+1) ak]))(_:Hid (W.ownsRow B1 27 1 (Value.slice Aa2 (i+1) af) (i+1) (aj++[.slice (some ⟨rb,0,none⟩) m m])))(_:Hid (W.ownsRow B1 34 3 (Value.slice Ab2 (i+1) ak) (i+1) (cbs++[.bool x.1,.string x.2.1,.string x.2.2])))(_:Hid (∀b,(Value.slice Aa2 (i+1) af).ownBlock=some b->(Value.slice Ab2 (i+1) ak).ownBlock≠some b))(_:Hid ((Value.slice Aa2 (i+1) af).ownBlock=(Value.slice Aa i ca).ownBlock\/∃b,(Value.slice Aa2 (i+1) af).ownBlock=some b/\w.heap.size<=b))(_:Hid ((Value.slice Ab2 (i+1) ak).ownBlock=(Value.slice Ab i cb).ownBlock\/∃b,(Value.slice Ab2 (i+1) ak).ownBlock=some b/\w.heap.size<=b)),Q .normal ⟨#[.pointer (some ⟨xb,0,none⟩),c1,c2,c3,c4,c5,c6,c7,c8,.slice (some ⟨rb,0,none⟩) m m,aN,.pointer (some ⟨gb,0,none⟩),aO,aP,ad,aQ,aR,aS,aT,aU,aV,aW,aX,aY,aZ,a0,a1,a2,a3,a4,a5,a6,a7,a8,a9,ba,bb,bd,be,bf,bg,bh,bi,bj,bk,bm,bn,bo,bp,bq,br,bs,bt,bu,bv,bw,bx,bz,bA,bB,bC,bD,bE,bF,bG,bH,bI,bJ,bK,bL,bM,bN,bO,bP,bQ,bR,bS,bT,bU,bW,bX,bY,bZ,b0,b1,b2,b3,u87,u88,u89,u90,u91,u92,u93,u94,u95,u96,u97,u98,u99,u100,u101,u102,u103,u104,u105,u106,aF],[]⟩ W):
 Code.wp Tryz.prog (bdR 22) Q ⟨#[.pointer (some ⟨xb,0,none⟩),c1,c2,c3,c4,c5,c6,c7,c8,.slice (some ⟨rb,0,none⟩) m m,aN,.pointer (some ⟨gb,0,none⟩),aO,aP,ad,aQ,aR,aS,aT,aU,aV,aW,aX,aY,aZ,a0,a1,a2,a3,a4,a5,a6,a7,a8,a9,ba,bb,bd,be,bf,bg,bh,bi,bj,bk,bm,bn,bo,bp,bq,br,bs,bt,bu,bv,bw,bx,bz,bA,bB,bC,bD,bE,bF,bG,bH,bI,bJ,bK,bL,bM,bN,bO,bP,bQ,bR,bS,bT,bU,bW,bX,bY,bZ,b0,b1,b2,b3,ce,cf,a89,cg,ch,ay,ci,az,an,cj,ck,cl,av,b6,am,ag,aJ,aK,aL,aM,aF],[]⟩ w:=by
 conv=>arg 2;whnf
 conv=>arg 4;zeta
 replace h:=zh h;have co:Hid (Kp (xb::((Value.slice Aa i ca).ownBlock.toList++(Value.slice Ab i cb).ownBlock.toList)) w w.drew):=(Kp.refl _ w).drew;have ct:Hid (Bk w.drew xb 79 [uv,.slice Aa i ca,.slice Ab i cb]):=hx.below (zI _ w).drew;have b7:Hid (Bk w.drew gb 34 [.bool x.1,.string x.2.1,.string x.2.2]):=hb.below (zI _ w).drew;have cw:=zh (AS oa (zI _ w).drew);have cy:=zh (AS ob (zI _ w).drew);have b8:Hid (∀b,(Value.slice Aa i ca).ownBlock=some b->B1<=b/\b<w.heap.size):=fun b e=>oa.lt b e;have cE:Hid (∀b,(Value.slice Ab i cb).ownBlock=some b->B1<=b/\b<w.heap.size):=fun b e=>ob.lt b e;have nxa:Hid ((Value.slice Aa i ca).ownBlock≠some xb):=fun e=>by have:=(oa.lt xb e).1;omega
 have nxb:Hid ((Value.slice Ab i cb).ownBlock≠some xb):=fun e=>by have:=(ob.lt xb e).1;omega
 have gl:=hb.lt;have xl:=hx.lt;replace ap:=zh ap;clear oa ob hb hx;replace aC:=zh aC;replace nga:=zh nga;replace ngb:=zh ngb;replace ngx:=zh ngx;replace b9:=zh b9;replace gl:=zh gl;replace xl:=zh xl;have aI:Hid (∀b,(Value.slice Aa i ca).ownBlock=some b->b∈((Value.slice Aa i ca).ownBlock.toList++(Value.slice Ab i cb).ownBlock.toList)\/w.heap.size<=b):=fun b e=>.inl (by rw[e];simp);have cr:Hid (∀b,(Value.slice Ab i cb).ownBlock=some b->b∈((Value.slice Aa i ca).ownBlock.toList++(Value.slice Ab i cb).ownBlock.toList)\/w.heap.size<=b):=fun b e=>.inl (by rw[e];simp);obtain⟨i0,aE,aH⟩:=Option.map_eq_some_iff.1 RL;simp only[Prod.mk.injEq]at aH;obtain⟨z0i0,z1i0,z2i0⟩:=aH;replace aE:=zh aE;replace z0i0:=zh z0i0;replace z1i0:=zh z1i0;replace z2i0:=zh z2i0;obtain⟨i3,b4,aH⟩:=Option.map_eq_some_iff.1 infoQ;simp only[Prod.mk.injEq]at aH;obtain⟨z0i3,z1i3,z2i3⟩:=aH;replace b4:=zh b4;replace z0i3:=zh z0i3;replace z1i3:=zh z1i3;replace z2i3:=zh z2i3;refine xf ?_;refine xR (S:=fun W=>W.cell? ⟨gb,0,none⟩=some (.bool x.1)/\W.cell? ⟨gb,1,none⟩=some (.string x.2.1)/\W.cell? ⟨gb,2,none⟩=some (.string x.2.2)) (by kernel_rfl) (Aj b7.o) (fun au=>?_);replace au:=zh au;refine tkeE (v:=?_) 0 rfl (au.o) (Or.inl ⟨by rfl,?_⟩) ?_;rotate_left
 . (intro w ai;obtain⟨q1,q2,q3⟩:=ai;go_simp<;>with_reducible rfl)
 try simp only[Act.put,zB]
 refine tkeE (v:=?_) 1 rfl (au.o) (Or.inl ⟨by rfl,?_⟩) ?_;rotate_left
 . (intro w ai;obtain⟨q1,q2,q3⟩:=ai;go_simp<;>with_reducible rfl)
 try simp only[Act.put]
 refine tkeE (v:=?_) 2 rfl (au.o) (Or.inl ⟨by rfl,?_⟩) ?_;rotate_left
 . (intro w ai;obtain⟨q1,q2,q3⟩:=ai;go_simp<;>with_reducible rfl)
 try simp only[Act.put]
 refine tkeE (v:=?_) 3 rfl (au.o) (Or.inl ⟨by rfl,?_⟩) ?_;rotate_left
 . (intro w ai;obtain⟨q1,q2,q3⟩:=ai;go_simp<;>with_reducible rfl)
 try simp only[Act.put]
 refine tkeE (v:=?_) 4 rfl (au.o) (Or.inl ⟨by rfl,?_⟩) ?_;rotate_left
 . (intro w ai;obtain⟨q1,q2,q3⟩:=ai;go_simp<;>with_reducible rfl)
 try simp only[Act.put]
 refine tkeE (v:=?_) 6 rfl (au.o) (Or.inl ⟨by rfl,?_⟩) ?_;rotate_left
 . (intro w ai;obtain⟨q1,q2,q3⟩:=ai;go_simp<;>with_reducible rfl)
 try simp only[Act.put]
 refine tkeE (v:=?_) 9 rfl (au.o) (Or.inl ⟨by rfl,?_⟩) ?_;rotate_left
 . (intro w ai;obtain⟨q1,q2,q3⟩:=ai;go_simp<;>with_reducible rfl)
 try simp only[Act.put]
 refine tkeE (v:=?_) 10 rfl (au.o) (Or.inl ⟨by rfl,?_⟩) ?_;rotate_left
 . (intro w ai;obtain⟨q1,q2,q3⟩:=ai;go_simp<;>with_reducible rfl)
 try simp only[Act.put]
 refine tkeE (v:=?_) 11 rfl (au.o) (Or.inl ⟨by rfl,?_⟩) ?_;rotate_left
 . (intro w ai;obtain⟨q1,q2,q3⟩:=ai;go_simp<;>with_reducible rfl)
 try simp only[Act.put]
 refine tkeE (v:=?_) 13 rfl (au.o) (Or.inl ⟨by rfl,?_⟩) ?_;rotate_left
 . (intro w ai;obtain⟨q1,q2,q3⟩:=ai;go_simp<;>with_reducible rfl)
 try simp only[Act.put]
 clear au;refine PA (fun F hF=>?_);replace hF:=zh hF;obtain⟨fr,ae⟩:∃f:Value->Value->Value->Value->Value->Value->Act,f=fun cA cB cC cD cc cd=>⟨#[.pointer (some ⟨xb,0,none⟩),c1,c2,c3,c4,c5,c6,c7,c8,.slice (some ⟨rb,0,none⟩) m m,aN,.pointer (some ⟨gb,0,none⟩),aO,aP,ad,aQ,aR,aS,aT,aU,aV,aW,aX,aY,aZ,a0,a1,a2,a3,a4,a5,a6,a7,a8,a9,ba,bb,bd,be,bf,bg,bh,bi,bj,bk,bm,bn,bo,bp,bq,br,bs,bt,bu,bv,bw,bx,bz,bA,bB,bC,bD,bE,bF,bG,bH,bI,bJ,bK,bL,bM,bN,bO,bP,bQ,bR,bS,bT,bU,bW,bX,bY,bZ,b0,b1,b2,b3,.pointer (some ⟨xb,0,none⟩),.pointer (some ⟨xb,0,none⟩),.pointer (some ⟨xb,0,none⟩),.pointer (some ⟨xb,0,none⟩),.pointer (some ⟨xb,1,none⟩),cA,.slice (some ⟨rb,0,none⟩) m m,cB,cC,.pointer (some ⟨xb,0,none⟩),.pointer (some ⟨xb,0,none⟩),.pointer (some ⟨xb,2,none⟩),cD,.agg #[.bool x.1,.string x.2.1,.string x.2.2],cc,cd,aJ,aK,aL,aM,aF],[]⟩:=⟨_,rfl⟩;replace ae:=zh ae;have cn:Hid (G22 xb gb uv Aa Ab i ca cb x w w.drew):=⟨co.o,ct.o,b7.o⟩
 have Lx5x7x8x12x14x15:∀(l7:Nat)(Aa2:Option Addr)(af:Nat)(aa:Nat)(Ab2:Option Addr)(ak:Nat)(W:World),Hid (G22 xb gb uv Aa Ab i ca cb x w W)->Hid (W.ownsRow B1 27 1 (Value.slice Aa2 (i+1) af) (i+1) (aj++[.slice (some ⟨rb,0,none⟩) m m]))->Hid ((Value.slice Aa2 (i+1) af).ownBlock=(Value.slice Aa i ca).ownBlock\/∃b,(Value.slice Aa2 (i+1) af).ownBlock=some b/\w.heap.size<=b)->Hid (W.ownsRow B1 34 3 (Value.slice Ab2 (i+1) ak) (i+1) (cbs++[.bool x.1,.string x.2.1,.string x.2.2]))->Hid ((Value.slice Ab2 (i+1) ak).ownBlock=(Value.slice Ab i cb).ownBlock\/∃b,(Value.slice Ab2 (i+1) ak).ownBlock=some b/\w.heap.size<=b)->Hid (∀b,(Value.slice Aa2 (i+1) af).ownBlock=some b->(Value.slice Ab2 (i+1) ak).ownBlock≠some b)->F 6 #[true,true,true,true,true,true,true,true,true,true,true,true,true,true,true,true,false,false,false,false,false,false] (fr (.slice Aa i ca) (.slice (some ⟨l7,0,none⟩) 1 1) (.slice Aa2 (i+1) af) (.slice Ab i cb) (.slice (some ⟨aa,0,none⟩) 1 1) (.slice Ab2 (i+1) ak)) W:=by
  intro l7 Aa2 af aa Ab2 ak W hg oa na ob nb ap;rw[hF.o,ae.o];dsimp only;refine tkeE (v:=?_) 16 rfl (Aj hg.o.b) (Or.inl ⟨by rfl,?_⟩) ?_;rotate_left
  . (intro w ai;obtain⟨q1,q2,q3⟩:=ai;go_simp<;>with_reducible rfl)
  try simp only[Act.put,zB,zE,zC]
  refine tkeE (v:=?_) 17 rfl (Aj hg.o.b) (Or.inl ⟨by rfl,?_⟩) ?_;rotate_left
  . (intro w ai;obtain⟨q1,q2,q3⟩:=ai;go_simp<;>with_reducible rfl)
  try simp only[Act.put,zB,zE,zC]
  have x1:=hg.o.y.c1;have f1:=hg.o.y.frozen 1;have x9:=hg.o.y.lt;refine zT (rs:=[18]) (by kernel_rfl) (by simp) ?_;refine zL (o:=_) rfl (fun K hK=>?_) ?_
  .go_simp;have al:Hid (Bk (W.setCell ⟨xb,1,none⟩ (.slice Aa2 (i+1) af)) gb 34 [.bool x.1,.string x.2.1,.string x.2.2]):=hg.o.b.far (p:=⟨xb,1,none⟩) ngx.o _;have ar:Hid (Bk (W.setCell ⟨xb,1,none⟩ (.slice Aa2 (i+1) af)) xb 79 [uv,.slice Aa2 (i+1) af,.slice Ab i cb]):=hg.o.y.set 1 (.slice Aa2 (i+1) af);have ax:Hid (Kp (xb::((Value.slice Aa i ca).ownBlock.toList++(Value.slice Ab i cb).ownBlock.toList)) w (W.setCell ⟨xb,1,none⟩ (.slice Aa2 (i+1) af))):=hg.o.k.set (a:=⟨xb,1,none⟩) _ (.inl (by simp));have nxa2:Hid ((Value.slice Aa2 (i+1) af).ownBlock≠some xb):=fun e=>by rcases na.o with c|⟨b,c,d⟩;(· exact nxa.o (c▸e));(· rw[c]at e;cases e;have:=xl.o;omega)
   have nxb2:Hid ((Value.slice Ab2 (i+1) ak).ownBlock≠some xb):=fun e=>by rcases nb.o with c|⟨b,c,d⟩;(· exact nxb.o (c▸e));(· rw[c]at e;cases e;have:=xl.o;omega)
   have b5:=zh (oa.o.kept (AD W ⟨xb,1,none⟩ (.slice Aa2 (i+1) af)) (.inr nxa2.o));have aB:=zh (ob.o.kept (AD W ⟨xb,1,none⟩ (.slice Aa2 (i+1) af)) (.inr nxb2.o));clear x1 f1 x9;refine hK.o _ _ (Aj al.o) (fun _=>?_);clear hK K
   try simp only[zB,zE,zC]
   refine tkeE (v:=?_) 19 rfl (Aj al.o) (Or.inl ⟨by rfl,?_⟩) ?_;rotate_left
   . (intro w ai;obtain⟨q1,q2,q3⟩:=ai;go_simp<;>with_reducible rfl)
   try simp only[Act.put,zB,zE,zC]
   refine tkeE (v:=?_) 20 rfl (Aj al.o) (Or.inl ⟨by rfl,?_⟩) ?_;rotate_left
   . (intro w ai;obtain⟨q1,q2,q3⟩:=ai;go_simp<;>with_reducible rfl)
   try simp only[Act.put,zB,zE,zC]
   have x1:=ar.o.c2;have f1:=ar.o.frozen 2;have x9:=ar.o.lt;refine zT (rs:=[21]) (by kernel_rfl) (by simp) ?_;refine zL (o:=_) rfl (fun K hK=>?_) ?_
   .go_simp;have cm:Hid (Bk ((W.setCell ⟨xb,1,none⟩ (.slice Aa2 (i+1) af)).setCell ⟨xb,2,none⟩ (.slice Ab2 (i+1) ak)) gb 34 [.bool x.1,.string x.2.1,.string x.2.2]):=al.o.far (p:=⟨xb,2,none⟩) ngx.o _;have cu:Hid (Bk ((W.setCell ⟨xb,1,none⟩ (.slice Aa2 (i+1) af)).setCell ⟨xb,2,none⟩ (.slice Ab2 (i+1) ak)) xb 79 [uv,.slice Aa2 (i+1) af,.slice Ab2 (i+1) ak]):=ar.o.set 2 (.slice Ab2 (i+1) ak);have cq:Hid (Kp (xb::((Value.slice Aa i ca).ownBlock.toList++(Value.slice Ab i cb).ownBlock.toList)) w ((W.setCell ⟨xb,1,none⟩ (.slice Aa2 (i+1) af)).setCell ⟨xb,2,none⟩ (.slice Ab2 (i+1) ak))):=ax.o.set (a:=⟨xb,2,none⟩) _ (.inl (by simp));have cx:=zh (b5.o.kept (AD (W.setCell ⟨xb,1,none⟩ (.slice Aa2 (i+1) af)) ⟨xb,2,none⟩ (.slice Ab2 (i+1) ak)) (.inr nxa2.o));have cz:=zh (aB.o.kept (AD (W.setCell ⟨xb,1,none⟩ (.slice Aa2 (i+1) af)) ⟨xb,2,none⟩ (.slice Ab2 (i+1) ak)) (.inr nxb2.o));clear x1 f1 x9;refine hK.o _ _ (Aj cm.o) (fun _=>?_);clear hK K
    try simp only[zB,zE,zC]
    refine xZ (by kernel_rfl) ?_ _;refine xM ?_;exact h.o _ _ _ _ _ _ _ _ _ _ _ _ _ _ _ _ _ _ _ _ _ _ _ _ _ cq cu cx cz ap na nb
   exact zQ
  exact zQ
 have Lx5x7x8x12x14:∀(l7:Nat)(Aa2:Option Addr)(af:Nat)(aa:Nat)(W:World),Hid (G22 xb gb uv Aa Ab i ca cb x w W)->Hid (W.ownsRow B1 27 1 (Value.slice Aa2 (i+1) af) (i+1) (aj++[.slice (some ⟨rb,0,none⟩) m m]))->Hid ((Value.slice Aa2 (i+1) af).ownBlock=(Value.slice Aa i ca).ownBlock\/∃b,(Value.slice Aa2 (i+1) af).ownBlock=some b/\w.heap.size<=b)->Hid (W.ownsRow B1 34 3 (Value.slice Ab i cb) i cbs)->Hid (∀b,(Value.slice Aa2 (i+1) af).ownBlock=some b->(Value.slice Ab i cb).ownBlock≠some b)->Hid ((W.cell? ⟨aa,0,none⟩=some (.bool x.1)/\W.cell? ⟨aa,1,none⟩=some (.string x.2.1)/\W.cell? ⟨aa,2,none⟩=some (.string x.2.2))/\w.heap.size<=aa/\aa<W.heap.size)->F 7 #[true,true,true,true,true,true,true,true,true,true,true,true,true,true,true,false,false,false,false,false,false,false] (fr (.slice Aa i ca) (.slice (some ⟨l7,0,none⟩) 1 1) (.slice Aa2 (i+1) af) (.slice Ab i cb) (.slice (some ⟨aa,0,none⟩) 1 1) ag) W:=by
  intro l7 Aa2 af aa W hg oa na ob ap ad;rw[hF.o,ae.o];dsimp only;refine zT (rs:=[15]) (by kernel_rfl) (by simp) ?_;refine zL (o:=_) rfl (fun K hK=>?_) ?_
  .rw[zG (by rfl)];refine Nt.Bh _ _ _ 27 rfl B1 34 i3 (.agg #[.bool false,.string ⟨#[]⟩,.string ⟨#[]⟩]) 3 40 Tryz.underlying27 b4.o z0i3.o z1i3.o z2i3.o rfl (by decide) (.slice Ab i cb) i cbs rfl ob.o ⟨aa,0,none⟩ 1 1 [.bool x.1,.string x.2.1,.string x.2.2] rfl rfl (Sk ad.o.1.1 ad.o.1.2.1 ad.o.1.2.2) (fun u hu=>BO x u hu) (by omega) (by unfold maxLen;omega) (by omega) (zS aC.o hg.o.k.size) ?_;intro vx wx aq ah ao;obtain⟨A9,c9,rfl⟩:=El aq;have al:=zh (hg.o.b.grown ah (fun e=>ngb.o e.symm));have ar:=zh (hg.o.y.grown ah (fun e=>nxb.o e.symm));have ax:=zh (Iv hg.o.k ah cr.o);have b5:=zh (oa.o.kept ah (by cases e:(Value.slice Aa2 (i+1) af).ownBlock with|none=>exact .inl rfl|some b=>exact .inr (fun e2=>ap.o b e e2.symm)));have cv:Hid ((Value.slice A9 (i+1) c9).ownBlock=(Value.slice Ab i cb).ownBlock\/∃b,(Value.slice A9 (i+1) c9).ownBlock=some b/\w.heap.size<=b):=ao.imp id fun e=>⟨_,e,hg.o.k.size⟩;have aA:Hid (∀b,(Value.slice Aa2 (i+1) af).ownBlock=some b->(Value.slice A9 (i+1) c9).ownBlock≠some b):=fun b e e2=>by rcases ao with c|c;(· exact ap.o b e (c▸e2));(· rw[c]at e2;cases e2;have:=(oa.o.lt _ e).2;omega)
   refine hK.o _ _ (Aj al.o) (fun _=>?_);clear hK K
   try simp only[Act.put,zB,zE,zC]
   rw[<-hF.o];have hl:=Lx5x7x8x12x14x15 l7 Aa2 af aa A9 c9 wx (zh ⟨ax.o,ar.o,al.o⟩) b5 na (zh aq) cv aA;rw[ae.o]at hl;exact hl
  exact zQ
 have Lx5x7x12x14:∀(l7:Nat)(aa:Nat)(W:World),Hid (G22 xb gb uv Aa Ab i ca cb x w W)->Hid (W.ownsRow B1 27 1 (Value.slice Aa i ca) i aj)->Hid (W.ownsRow B1 34 3 (Value.slice Ab i cb) i cbs)->Hid (∀b,(Value.slice Aa i ca).ownBlock=some b->(Value.slice Ab i cb).ownBlock≠some b)->Hid (W.cell? ⟨l7,0,none⟩=some (.slice (some ⟨rb,0,none⟩) m m)/\w.heap.size<=l7/\l7<W.heap.size)->Hid ((W.cell? ⟨aa,0,none⟩=some (.bool x.1)/\W.cell? ⟨aa,1,none⟩=some (.string x.2.1)/\W.cell? ⟨aa,2,none⟩=some (.string x.2.2))/\w.heap.size<=aa/\aa<W.heap.size)->F 8 #[true,true,true,true,true,true,true,true,false,true,true,true,true,true,true,false,false,false,false,false,false,false] (fr (.slice Aa i ca) (.slice (some ⟨l7,0,none⟩) 1 1) an (.slice Ab i cb) (.slice (some ⟨aa,0,none⟩) 1 1) ag) W:=by
  intro l7 aa W hg oa ob ap c7 ad;rw[hF.o,ae.o];dsimp only;refine zT (rs:=[8]) (by kernel_rfl) (by simp) ?_;refine zL (o:=_) rfl (fun K hK=>?_) ?_
  .rw [zG (by rfl)];refine Nt.Bh _ _ _ 77 rfl B1 27 i0 (.slice none 0 0) 1 24 Tryz.underlying77 aE.o z0i0.o z1i0.o z2i0.o rfl (by decide) (.slice Aa i ca) i aj rfl oa.o ⟨l7,0,none⟩ 1 1 [.slice (some ⟨rb,0,none⟩) m m] rfl rfl (Kd c7.o.1) (Ci.A7 _ rfl) (by omega) (by unfold maxLen;omega) (by omega) (zS aC.o hg.o.k.size) ?_;intro vx wx aq ah ao;obtain⟨A9,c9,rfl⟩:=El aq;have al:=zh (hg.o.b.grown ah (fun e=>nga.o e.symm));have ar:=zh (hg.o.y.grown ah (fun e=>nxa.o e.symm));have ax:=zh (Iv hg.o.k ah aI.o);have aB:=zh (ob.o.kept ah (by cases e:(Value.slice Ab i cb).ownBlock with|none=>exact .inl rfl|some b=>exact .inr (fun e2=>ap.o b e2.symm e)));have aD:Hid ((Value.slice A9 (i+1) c9).ownBlock=(Value.slice Aa i ca).ownBlock\/∃b,(Value.slice A9 (i+1) c9).ownBlock=some b/\w.heap.size<=b):=ao.imp id fun e=>⟨_,e,hg.o.k.size⟩;have aA:Hid (∀b,(Value.slice A9 (i+1) c9).ownBlock=some b->(Value.slice Ab i cb).ownBlock≠some b):=fun b e e2=>by rcases ao with c|c;(· exact ap.o b (c▸e) e2);(· rw[c]at e;cases e;have:=(ob.o.lt _ e2).2;omega)
   have aG:Hid (((wx.cell? ⟨aa,0,none⟩=some (.bool x.1)/\wx.cell? ⟨aa,1,none⟩=some (.string x.2.1)/\wx.cell? ⟨aa,2,none⟩=some (.string x.2.2))/\w.heap.size<=aa/\aa<wx.heap.size)):=by
    have aw:=ah.block aa ad.o.2.2 (fun e=>by have:=(b8.o _ e.symm).2;have:=ad.o.2.1;omega);exact⟨⟨(zR (a:=⟨aa,0,none⟩) aw).trans ad.o.1.1,(zR (a:=⟨aa,1,none⟩) aw).trans ad.o.1.2.1,(zR (a:=⟨aa,2,none⟩) aw).trans ad.o.1.2.2⟩,ad.o.2.1,zJ ad.o.2.2 ah.size⟩
   refine hK.o _ _ (Aj al.o) (fun _=>?_);clear hK K
   try simp only[Act.put,zB,zE,zC]
   rw[<-hF.o];have hl:=Lx5x7x8x12x14 l7 A9 c9 aa wx (zh ⟨ax.o,ar.o,al.o⟩) (zh aq) aD aB aA aG;rw[ae.o]at hl;exact hl
  exact zQ
 have Lx5x7x8x12:∀(l7:Nat)(Aa2:Option Addr)(af:Nat)(W:World),Hid (G22 xb gb uv Aa Ab i ca cb x w W)->Hid (W.ownsRow B1 27 1 (Value.slice Aa2 (i+1) af) (i+1) (aj++[.slice (some ⟨rb,0,none⟩) m m]))->Hid ((Value.slice Aa2 (i+1) af).ownBlock=(Value.slice Aa i ca).ownBlock\/∃b,(Value.slice Aa2 (i+1) af).ownBlock=some b/\w.heap.size<=b)->Hid (W.ownsRow B1 34 3 (Value.slice Ab i cb) i cbs)->Hid (∀b,(Value.slice Aa2 (i+1) af).ownBlock=some b->(Value.slice Ab i cb).ownBlock≠some b)->F 8 #[true,true,true,true,true,true,true,true,true,true,true,true,true,true,false,false,false,false,false,false,false,false] (fr (.slice Aa i ca) (.slice (some ⟨l7,0,none⟩) 1 1) (.slice Aa2 (i+1) af) (.slice Ab i cb) am ag) W:=by
  intro l7 Aa2 af W hg oa na ob ap;rw[hF.o,ae.o];dsimp only;refine zT (rs:=[14]) (by kernel_rfl) (by simp) ?_;refine zL (o:=_) rfl (fun K hK=>?_) ?_
  .go_simp;refine hK.o _ _ (Aj (hg.o.b.alloc _)) (fun _=>?_);clear hK K
   try simp only[zB,zE,zC]
   rw[<-hF.o];have hl:=Lx5x7x8x12x14 l7 Aa2 af W.heap.size (W.alloc (.cells #[.bool x.1,.string x.2.1,.string x.2.2] 34)) (zh ((hg.o.alloc _))) (zh ((oa.o.alloc _))) (zh (na.o)) (zh ((ob.o.alloc _))) (zh (ap.o)) (zh (⟨⟨(Bk.new W 34 [.bool x.1,.string x.2.1,.string x.2.2]).c0,(Bk.new W 34 [.bool x.1,.string x.2.1,.string x.2.2]).c1,(Bk.new W 34 [.bool x.1,.string x.2.1,.string x.2.2]).c2⟩,hg.o.k.size,by rw[zK];exact zy _⟩));rw[ae.o]at hl;exact hl
  exact zQ
 have Lx5x7x12:∀(l7:Nat)(W:World),Hid (G22 xb gb uv Aa Ab i ca cb x w W)->Hid (W.ownsRow B1 27 1 (Value.slice Aa i ca) i aj)->Hid (W.ownsRow B1 34 3 (Value.slice Ab i cb) i cbs)->Hid (∀b,(Value.slice Aa i ca).ownBlock=some b->(Value.slice Ab i cb).ownBlock≠some b)->Hid (W.cell? ⟨l7,0,none⟩=some (.slice (some ⟨rb,0,none⟩) m m)/\w.heap.size<=l7/\l7<W.heap.size)->F 9 #[true,true,true,true,true,true,true,true,false,true,true,true,true,true,false,false,false,false,false,false,false,false] (fr (.slice Aa i ca) (.slice (some ⟨l7,0,none⟩) 1 1) an (.slice Ab i cb) am ag) W:=by
  intro l7 W hg oa ob ap c7;rw[hF.o,ae.o];dsimp only;refine zT (rs:=[8,14]) (by kernel_rfl) (by simp) ?_;refine zL (o:=_) rfl (fun K hK=>?_) ?_
  .rw[zG (by rfl)];refine Nt.Bh _ _ _ 77 rfl B1 27 i0 (.slice none 0 0) 1 24 Tryz.underlying77 aE.o z0i0.o z1i0.o z2i0.o rfl (by decide) (.slice Aa i ca) i aj rfl oa.o ⟨l7,0,none⟩ 1 1 [.slice (some ⟨rb,0,none⟩) m m] rfl rfl (Kd c7.o.1) (Ci.A7 _ rfl) (by omega) (by unfold maxLen;omega) (by omega) (zS aC.o hg.o.k.size) ?_;intro vx wx aq ah ao;obtain⟨A9,c9,rfl⟩:=El aq;have al:=zh (hg.o.b.grown ah (fun e=>nga.o e.symm));have ar:=zh (hg.o.y.grown ah (fun e=>nxa.o e.symm));have ax:=zh (Iv hg.o.k ah aI.o);have aB:=zh (ob.o.kept ah (by cases e:(Value.slice Ab i cb).ownBlock with|none=>exact .inl rfl|some b=>exact .inr (fun e2=>ap.o b e2.symm e)));have aD:Hid ((Value.slice A9 (i+1) c9).ownBlock=(Value.slice Aa i ca).ownBlock\/∃b,(Value.slice A9 (i+1) c9).ownBlock=some b/\w.heap.size<=b):=ao.imp id fun e=>⟨_,e,hg.o.k.size⟩;have aA:Hid (∀b,(Value.slice A9 (i+1) c9).ownBlock=some b->(Value.slice Ab i cb).ownBlock≠some b):=fun b e e2=>by rcases ao with c|c;(· exact ap.o b (c▸e) e2);(· rw[c]at e;cases e;have:=(ob.o.lt _ e2).2;omega)
   refine hK.o _ _ (Aj al.o) (fun _=>?_);clear hK K
   try simp only[Act.put,zB,zE,zC]
   rw[<-hF.o];have hl:=Lx5x7x8x12 l7 A9 c9 wx (zh ⟨ax.o,ar.o,al.o⟩) (zh aq) aD aB aA;rw[ae.o]at hl;exact hl
  refine zL (o:=_) rfl (fun K hK=>?_) ?_
  .go_simp;refine hK.o _ _ (Aj (hg.o.b.alloc _)) (fun _=>?_);clear hK K
   try simp only[zB,zE,zC]
   rw[<-hF.o];have hl:=Lx5x7x12x14 l7 W.heap.size (W.alloc (.cells #[.bool x.1,.string x.2.1,.string x.2.2] 34)) (zh ((hg.o.alloc _))) (zh ((oa.o.alloc _))) (zh ((ob.o.alloc _))) (zh (ap.o)) (zh (⟨(zi _ _ _ c7.o.2.2).trans c7.o.1,c7.o.2.1,by rw[zK];exact xj c7.o.2.2⟩)) (zh (⟨⟨(Bk.new W 34 [.bool x.1,.string x.2.1,.string x.2.2]).c0,(Bk.new W 34 [.bool x.1,.string x.2.1,.string x.2.2]).c1,(Bk.new W 34 [.bool x.1,.string x.2.1,.string x.2.2]).c2⟩,hg.o.k.size,by rw[zK];exact zy _⟩));rw[ae.o]at hl;exact hl
  exact zQ
 have Lx5x7x8x14:∀(l7:Nat)(Aa2:Option Addr)(af:Nat)(aa:Nat)(W:World),Hid (G22 xb gb uv Aa Ab i ca cb x w W)->Hid (W.ownsRow B1 27 1 (Value.slice Aa2 (i+1) af) (i+1) (aj++[.slice (some ⟨rb,0,none⟩) m m]))->Hid ((Value.slice Aa2 (i+1) af).ownBlock=(Value.slice Aa i ca).ownBlock\/∃b,(Value.slice Aa2 (i+1) af).ownBlock=some b/\w.heap.size<=b)->Hid (W.ownsRow B1 34 3 (Value.slice Ab i cb) i cbs)->Hid (∀b,(Value.slice Aa2 (i+1) af).ownBlock=some b->(Value.slice Ab i cb).ownBlock≠some b)->Hid ((W.cell? ⟨aa,0,none⟩=some (.bool x.1)/\W.cell? ⟨aa,1,none⟩=some (.string x.2.1)/\W.cell? ⟨aa,2,none⟩=some (.string x.2.2))/\w.heap.size<=aa/\aa<W.heap.size)->F 8 #[true,true,true,true,true,true,true,true,true,true,true,true,false,true,true,false,false,false,false,false,false,false] (fr (.slice Aa i ca) (.slice (some ⟨l7,0,none⟩) 1 1) (.slice Aa2 (i+1) af) av (.slice (some ⟨aa,0,none⟩) 1 1) ag) W:=by
  intro l7 Aa2 af aa W hg oa na ob ap ad;rw[hF.o,ae.o];dsimp only;refine zT (rs:=[12]) (by kernel_rfl) (by simp) ?_;have x1:=hg.o.y.c2;have x9:=hg.o.y.lt;refine zL (o:=_) rfl (fun K hK=>?_) ?_
  .go_simp;clear x1 x9;refine hK.o _ _ (Aj hg.o.b) (fun _=>?_);clear hK K
   try simp only[zB,zE,zC]
   rw[<-hF.o];have hl:=Lx5x7x8x12x14 l7 Aa2 af aa W hg oa na ob ap ad;rw[ae.o]at hl;exact hl
  clear x1 x9;exact zQ
 have Lx5x7x14:∀(l7:Nat)(aa:Nat)(W:World),Hid (G22 xb gb uv Aa Ab i ca cb x w W)->Hid (W.ownsRow B1 27 1 (Value.slice Aa i ca) i aj)->Hid (W.ownsRow B1 34 3 (Value.slice Ab i cb) i cbs)->Hid (∀b,(Value.slice Aa i ca).ownBlock=some b->(Value.slice Ab i cb).ownBlock≠some b)->Hid (W.cell? ⟨l7,0,none⟩=some (.slice (some ⟨rb,0,none⟩) m m)/\w.heap.size<=l7/\l7<W.heap.size)->Hid ((W.cell? ⟨aa,0,none⟩=some (.bool x.1)/\W.cell? ⟨aa,1,none⟩=some (.string x.2.1)/\W.cell? ⟨aa,2,none⟩=some (.string x.2.2))/\w.heap.size<=aa/\aa<W.heap.size)->F 9 #[true,true,true,true,true,true,true,true,false,true,true,true,false,true,true,false,false,false,false,false,false,false] (fr (.slice Aa i ca) (.slice (some ⟨l7,0,none⟩) 1 1) an av (.slice (some ⟨aa,0,none⟩) 1 1) ag) W:=by
  intro l7 aa W hg oa ob ap c7 ad;rw[hF.o,ae.o];dsimp only;refine zT (rs:=[8,12]) (by kernel_rfl) (by simp) ?_;refine zL (o:=_) rfl (fun K hK=>?_) ?_
  .rw [zG (by rfl)];refine Nt.Bh _ _ _ 77 rfl B1 27 i0 (.slice none 0 0) 1 24 Tryz.underlying77 aE.o z0i0.o z1i0.o z2i0.o rfl (by decide) (.slice Aa i ca) i aj rfl oa.o ⟨l7,0,none⟩ 1 1 [.slice (some ⟨rb,0,none⟩) m m] rfl rfl (Kd c7.o.1) (Ci.A7 _ rfl) (by omega) (by unfold maxLen;omega) (by omega) (zS aC.o hg.o.k.size) ?_;intro vx wx aq ah ao;obtain⟨A9,c9,rfl⟩:=El aq;have al:=zh (hg.o.b.grown ah (fun e=>nga.o e.symm));have ar:=zh (hg.o.y.grown ah (fun e=>nxa.o e.symm));have ax:=zh (Iv hg.o.k ah aI.o);have aB:=zh (ob.o.kept ah (by cases e:(Value.slice Ab i cb).ownBlock with|none=>exact .inl rfl|some b=>exact .inr (fun e2=>ap.o b e2.symm e)));have aD:Hid ((Value.slice A9 (i+1) c9).ownBlock=(Value.slice Aa i ca).ownBlock\/∃b,(Value.slice A9 (i+1) c9).ownBlock=some b/\w.heap.size<=b):=ao.imp id fun e=>⟨_,e,hg.o.k.size⟩;have aA:Hid (∀b,(Value.slice A9 (i+1) c9).ownBlock=some b->(Value.slice Ab i cb).ownBlock≠some b):=fun b e e2=>by rcases ao with c|c;(· exact ap.o b (c▸e) e2);(· rw[c]at e;cases e;have:=(ob.o.lt _ e2).2;omega)
   have aG:Hid (((wx.cell? ⟨aa,0,none⟩=some (.bool x.1)/\wx.cell? ⟨aa,1,none⟩=some (.string x.2.1)/\wx.cell? ⟨aa,2,none⟩=some (.string x.2.2))/\w.heap.size<=aa/\aa<wx.heap.size)):=by
    have aw:=ah.block aa ad.o.2.2 (fun e=>by have:=(b8.o _ e.symm).2;have:=ad.o.2.1;omega);exact⟨⟨(zR (a:=⟨aa,0,none⟩) aw).trans ad.o.1.1,(zR (a:=⟨aa,1,none⟩) aw).trans ad.o.1.2.1,(zR (a:=⟨aa,2,none⟩) aw).trans ad.o.1.2.2⟩,ad.o.2.1,zJ ad.o.2.2 ah.size⟩
   refine hK.o _ _ (Aj al.o) (fun _=>?_);clear hK K
   try simp only[Act.put,zB,zE,zC]
   rw[<-hF.o];have hl:=Lx5x7x8x14 l7 A9 c9 aa wx (zh ⟨ax.o,ar.o,al.o⟩) (zh aq) aD aB aA aG;rw[ae.o]at hl;exact hl
  have x1:=hg.o.y.c2;have x9:=hg.o.y.lt;refine zL (o:=_) rfl (fun K hK=>?_) ?_
  .go_simp;clear x1 x9;refine hK.o _ _ (Aj hg.o.b) (fun _=>?_);clear hK K
   try simp only[zB,zE,zC]
   rw[<-hF.o];have hl:=Lx5x7x12x14 l7 aa W hg oa ob ap c7 ad;rw[ae.o]at hl;exact hl
  clear x1 x9;exact zQ
 have Lx5x7x8:∀(l7:Nat)(Aa2:Option Addr)(af:Nat)(W:World),Hid (G22 xb gb uv Aa Ab i ca cb x w W)->Hid (W.ownsRow B1 27 1 (Value.slice Aa2 (i+1) af) (i+1) (aj++[.slice (some ⟨rb,0,none⟩) m m]))->Hid ((Value.slice Aa2 (i+1) af).ownBlock=(Value.slice Aa i ca).ownBlock\/∃b,(Value.slice Aa2 (i+1) af).ownBlock=some b/\w.heap.size<=b)->Hid (W.ownsRow B1 34 3 (Value.slice Ab i cb) i cbs)->Hid (∀b,(Value.slice Aa2 (i+1) af).ownBlock=some b->(Value.slice Ab i cb).ownBlock≠some b)->F 9 #[true,true,true,true,true,true,true,true,true,true,true,true,false,true,false,false,false,false,false,false,false,false] (fr (.slice Aa i ca) (.slice (some ⟨l7,0,none⟩) 1 1) (.slice Aa2 (i+1) af) av am ag) W:=by
  intro l7 Aa2 af W hg oa na ob ap;rw[hF.o,ae.o];dsimp only;refine zT (rs:=[12,14]) (by kernel_rfl) (by simp) ?_;have x1:=hg.o.y.c2;have x9:=hg.o.y.lt;refine zL (o:=_) rfl (fun K hK=>?_) ?_
  .go_simp;clear x1 x9;refine hK.o _ _ (Aj hg.o.b) (fun _=>?_);clear hK K
   try simp only[zB,zE,zC]
   rw[<-hF.o];have hl:=Lx5x7x8x12 l7 Aa2 af W hg oa na ob ap;rw[ae.o]at hl;exact hl
  clear x1 x9;refine zL (o:=_) rfl (fun K hK=>?_) ?_
  .go_simp;refine hK.o _ _ (Aj (hg.o.b.alloc _)) (fun _=>?_);clear hK K
   try simp only[zB,zE,zC]
   rw[<-hF.o];have hl:=Lx5x7x8x14 l7 Aa2 af W.heap.size (W.alloc (.cells #[.bool x.1,.string x.2.1,.string x.2.2] 34)) (zh ((hg.o.alloc _))) (zh ((oa.o.alloc _))) (zh (na.o)) (zh ((ob.o.alloc _))) (zh (ap.o)) (zh (⟨⟨(Bk.new W 34 [.bool x.1,.string x.2.1,.string x.2.2]).c0,(Bk.new W 34 [.bool x.1,.string x.2.1,.string x.2.2]).c1,(Bk.new W 34 [.bool x.1,.string x.2.1,.string x.2.2]).c2⟩,hg.o.k.size,by rw[zK];exact zy _⟩));rw[ae.o]at hl;exact hl
  exact zQ
 have Lx5x7:∀(l7:Nat)(W:World),Hid (G22 xb gb uv Aa Ab i ca cb x w W)->Hid (W.ownsRow B1 27 1 (Value.slice Aa i ca) i aj)->Hid (W.ownsRow B1 34 3 (Value.slice Ab i cb) i cbs)->Hid (∀b,(Value.slice Aa i ca).ownBlock=some b->(Value.slice Ab i cb).ownBlock≠some b)->Hid (W.cell? ⟨l7,0,none⟩=some (.slice (some ⟨rb,0,none⟩) m m)/\w.heap.size<=l7/\l7<W.heap.size)->F 10 #[true,true,true,true,true,true,true,true,false,true,true,true,false,true,false,false,false,false,false,false,false,false] (fr (.slice Aa i ca) (.slice (some ⟨l7,0,none⟩) 1 1) an av am ag) W:=by
  intro l7 W hg oa ob ap c7;rw[hF.o,ae.o];dsimp only;refine zT (rs:=[8,12,14]) (by kernel_rfl) (by simp) ?_;refine zL (o:=_) rfl (fun K hK=>?_) ?_
  .rw[zG (by rfl)];refine Nt.Bh _ _ _ 77 rfl B1 27 i0 (.slice none 0 0) 1 24 Tryz.underlying77 aE.o z0i0.o z1i0.o z2i0.o rfl (by decide) (.slice Aa i ca) i aj rfl oa.o ⟨l7,0,none⟩ 1 1 [.slice (some ⟨rb,0,none⟩) m m] rfl rfl (Kd c7.o.1) (Ci.A7 _ rfl) (by omega) (by unfold maxLen;omega) (by omega) (zS aC.o hg.o.k.size) ?_;intro vx wx aq ah ao;obtain⟨A9,c9,rfl⟩:=El aq;have al:=zh (hg.o.b.grown ah (fun e=>nga.o e.symm));have ar:=zh (hg.o.y.grown ah (fun e=>nxa.o e.symm));have ax:=zh (Iv hg.o.k ah aI.o);have aB:=zh (ob.o.kept ah (by cases e:(Value.slice Ab i cb).ownBlock with|none=>exact .inl rfl|some b=>exact .inr (fun e2=>ap.o b e2.symm e)));have aD:Hid ((Value.slice A9 (i+1) c9).ownBlock=(Value.slice Aa i ca).ownBlock\/∃b,(Value.slice A9 (i+1) c9).ownBlock=some b/\w.heap.size<=b):=ao.imp id fun e=>⟨_,e,hg.o.k.size⟩;have aA:Hid (∀b,(Value.slice A9 (i+1) c9).ownBlock=some b->(Value.slice Ab i cb).ownBlock≠some b):=fun b e e2=>by rcases ao with c|c;(· exact ap.o b (c▸e) e2);(· rw[c]at e;cases e;have:=(ob.o.lt _ e2).2;omega)
   refine hK.o _ _ (Aj al.o) (fun _=>?_);clear hK K
   try simp only[Act.put,zB,zE,zC]
   rw[<-hF.o];have hl:=Lx5x7x8 l7 A9 c9 wx (zh ⟨ax.o,ar.o,al.o⟩) (zh aq) aD aB aA;rw[ae.o]at hl;exact hl
  have x1:=hg.o.y.c2;have x9:=hg.o.y.lt;refine zL (o:=_) rfl (fun K hK=>?_) ?_
  .go_simp;clear x1 x9;refine hK.o _ _ (Aj hg.o.b) (fun _=>?_);clear hK K
   try simp only[zB,zE,zC]
   rw[<-hF.o];have hl:=Lx5x7x12 l7 W hg oa ob ap c7;rw[ae.o]at hl;exact hl
  clear x1 x9;refine zL (o:=_) rfl (fun K hK=>?_) ?_
  .go_simp;refine hK.o _ _ (Aj (hg.o.b.alloc _)) (fun _=>?_);clear hK K
   try simp only[zB,zE,zC]
   rw[<-hF.o];have hl:=Lx5x7x14 l7 W.heap.size (W.alloc (.cells #[.bool x.1,.string x.2.1,.string x.2.2] 34)) (zh ((hg.o.alloc _))) (zh ((oa.o.alloc _))) (zh ((ob.o.alloc _))) (zh (ap.o)) (zh (⟨(zi _ _ _ c7.o.2.2).trans c7.o.1,c7.o.2.1,by rw[zK];exact xj c7.o.2.2⟩)) (zh (⟨⟨(Bk.new W 34 [.bool x.1,.string x.2.1,.string x.2.2]).c0,(Bk.new W 34 [.bool x.1,.string x.2.1,.string x.2.2]).c1,(Bk.new W 34 [.bool x.1,.string x.2.1,.string x.2.2]).c2⟩,hg.o.k.size,by rw[zK];exact zy _⟩));rw[ae.o]at hl;exact hl
  exact zQ
 have Lx5x12x14:∀(aa:Nat)(W:World),Hid (G22 xb gb uv Aa Ab i ca cb x w W)->Hid (W.ownsRow B1 27 1 (Value.slice Aa i ca) i aj)->Hid (W.ownsRow B1 34 3 (Value.slice Ab i cb) i cbs)->Hid (∀b,(Value.slice Aa i ca).ownBlock=some b->(Value.slice Ab i cb).ownBlock≠some b)->Hid ((W.cell? ⟨aa,0,none⟩=some (.bool x.1)/\W.cell? ⟨aa,1,none⟩=some (.string x.2.1)/\W.cell? ⟨aa,2,none⟩=some (.string x.2.2))/\w.heap.size<=aa/\aa<W.heap.size)->F 9 #[true,true,true,true,true,true,true,false,false,true,true,true,true,true,true,false,false,false,false,false,false,false] (fr (.slice Aa i ca) az an (.slice Ab i cb) (.slice (some ⟨aa,0,none⟩) 1 1) ag) W:=by
  intro aa W hg oa ob ap ad;rw[hF.o,ae.o];dsimp only;refine zT (rs:=[7]) (by kernel_rfl) (by simp) ?_;refine zL (o:=_) rfl (fun K hK=>?_) ?_
  .go_simp;refine hK.o _ _ (Aj (hg.o.b.alloc _)) (fun _=>?_);clear hK K
   try simp only[zB,zE,zC]
   rw[<-hF.o];have hl:=Lx5x7x12x14 W.heap.size aa (W.alloc (.cells #[.slice (some ⟨rb,0,none⟩) m m] 27)) (zh ((hg.o.alloc _))) (zh ((oa.o.alloc _))) (zh ((ob.o.alloc _))) (zh (ap.o)) (zh (⟨(Bk.new W 27 [.slice (some ⟨rb,0,none⟩) m m]).c0,hg.o.k.size,by rw[zK];exact zy _⟩)) (zh (⟨⟨(zi _ _ _ ad.o.2.2).trans ad.o.1.1,(zi _ _ _ ad.o.2.2).trans ad.o.1.2.1,(zi _ _ _ ad.o.2.2).trans ad.o.1.2.2⟩,ad.o.2.1,by rw[zK];exact xj ad.o.2.2⟩));rw[ae.o]at hl;exact hl
  exact zQ
 have Lx5x12:∀(W:World),Hid (G22 xb gb uv Aa Ab i ca cb x w W)->Hid (W.ownsRow B1 27 1 (Value.slice Aa i ca) i aj)->Hid (W.ownsRow B1 34 3 (Value.slice Ab i cb) i cbs)->Hid (∀b,(Value.slice Aa i ca).ownBlock=some b->(Value.slice Ab i cb).ownBlock≠some b)->F 10 #[true,true,true,true,true,true,true,false,false,true,true,true,true,true,false,false,false,false,false,false,false,false] (fr (.slice Aa i ca) az an (.slice Ab i cb) am ag) W:=by
  intro  W hg oa ob ap;rw[hF.o,ae.o];dsimp only;refine zT (rs:=[7,14]) (by kernel_rfl) (by simp) ?_;refine zL (o:=_) rfl (fun K hK=>?_) ?_
  .go_simp;refine hK.o _ _ (Aj (hg.o.b.alloc _)) (fun _=>?_);clear hK K
   try simp only[zB,zE,zC]
   rw[<-hF.o];have hl:=Lx5x7x12 W.heap.size (W.alloc (.cells #[.slice (some ⟨rb,0,none⟩) m m] 27)) (zh ((hg.o.alloc _))) (zh ((oa.o.alloc _))) (zh ((ob.o.alloc _))) (zh (ap.o)) (zh (⟨(Bk.new W 27 [.slice (some ⟨rb,0,none⟩) m m]).c0,hg.o.k.size,by rw[zK];exact zy _⟩));rw[ae.o]at hl;exact hl
  refine zL (o:=_) rfl (fun K hK=>?_) ?_
  .go_simp;refine hK.o _ _ (Aj (hg.o.b.alloc _)) (fun _=>?_);clear hK K
   try simp only[zB,zE,zC]
   rw[<-hF.o];have hl:=Lx5x12x14 W.heap.size (W.alloc (.cells #[.bool x.1,.string x.2.1,.string x.2.2] 34)) (zh ((hg.o.alloc _))) (zh ((oa.o.alloc _))) (zh ((ob.o.alloc _))) (zh (ap.o)) (zh (⟨⟨(Bk.new W 34 [.bool x.1,.string x.2.1,.string x.2.2]).c0,(Bk.new W 34 [.bool x.1,.string x.2.1,.string x.2.2]).c1,(Bk.new W 34 [.bool x.1,.string x.2.1,.string x.2.2]).c2⟩,hg.o.k.size,by rw[zK];exact zy _⟩));rw[ae.o]at hl;exact hl
  exact zQ
 have Lx5x14:∀(aa:Nat)(W:World),Hid (G22 xb gb uv Aa Ab i ca cb x w W)->Hid (W.ownsRow B1 27 1 (Value.slice Aa i ca) i aj)->Hid (W.ownsRow B1 34 3 (Value.slice Ab i cb) i cbs)->Hid (∀b,(Value.slice Aa i ca).ownBlock=some b->(Value.slice Ab i cb).ownBlock≠some b)->Hid ((W.cell? ⟨aa,0,none⟩=some (.bool x.1)/\W.cell? ⟨aa,1,none⟩=some (.string x.2.1)/\W.cell? ⟨aa,2,none⟩=some (.string x.2.2))/\w.heap.size<=aa/\aa<W.heap.size)->F 10 #[true,true,true,true,true,true,true,false,false,true,true,true,false,true,true,false,false,false,false,false,false,false] (fr (.slice Aa i ca) az an av (.slice (some ⟨aa,0,none⟩) 1 1) ag) W:=by
  intro aa W hg oa ob ap ad;rw[hF.o,ae.o];dsimp only;refine zT (rs:=[7,12]) (by kernel_rfl) (by simp) ?_;refine zL (o:=_) rfl (fun K hK=>?_) ?_
  .go_simp;refine hK.o _ _ (Aj (hg.o.b.alloc _)) (fun _=>?_);clear hK K
   try simp only[zB,zE,zC]
   rw[<-hF.o];have hl:=Lx5x7x14 W.heap.size aa (W.alloc (.cells #[.slice (some ⟨rb,0,none⟩) m m] 27)) (zh ((hg.o.alloc _))) (zh ((oa.o.alloc _))) (zh ((ob.o.alloc _))) (zh (ap.o)) (zh (⟨(Bk.new W 27 [.slice (some ⟨rb,0,none⟩) m m]).c0,hg.o.k.size,by rw[zK];exact zy _⟩)) (zh (⟨⟨(zi _ _ _ ad.o.2.2).trans ad.o.1.1,(zi _ _ _ ad.o.2.2).trans ad.o.1.2.1,(zi _ _ _ ad.o.2.2).trans ad.o.1.2.2⟩,ad.o.2.1,by rw[zK];exact xj ad.o.2.2⟩));rw[ae.o]at hl;exact hl
  have x1:=hg.o.y.c2;have x9:=hg.o.y.lt;refine zL (o:=_) rfl (fun K hK=>?_) ?_
  .go_simp;clear x1 x9;refine hK.o _ _ (Aj hg.o.b) (fun _=>?_);clear hK K
   try simp only[zB,zE,zC]
   rw[<-hF.o];have hl:=Lx5x12x14 aa W hg oa ob ap ad;rw[ae.o]at hl;exact hl
  clear x1 x9;exact zQ
 have Lx5:∀(W:World),Hid (G22 xb gb uv Aa Ab i ca cb x w W)->Hid (W.ownsRow B1 27 1 (Value.slice Aa i ca) i aj)->Hid (W.ownsRow B1 34 3 (Value.slice Ab i cb) i cbs)->Hid (∀b,(Value.slice Aa i ca).ownBlock=some b->(Value.slice Ab i cb).ownBlock≠some b)->F 11 #[true,true,true,true,true,true,true,false,false,true,true,true,false,true,false,false,false,false,false,false,false,false] (fr (.slice Aa i ca) az an av am ag) W:=by
  intro  W hg oa ob ap;rw[hF.o,ae.o];dsimp only;refine zT (rs:=[7,12,14]) (by kernel_rfl) (by simp) ?_;refine zL (o:=_) rfl (fun K hK=>?_) ?_
  .go_simp;refine hK.o _ _ (Aj (hg.o.b.alloc _)) (fun _=>?_);clear hK K
   try simp only[zB,zE,zC]
   rw[<-hF.o];have hl:=Lx5x7 W.heap.size (W.alloc (.cells #[.slice (some ⟨rb,0,none⟩) m m] 27)) (zh ((hg.o.alloc _))) (zh ((oa.o.alloc _))) (zh ((ob.o.alloc _))) (zh (ap.o)) (zh (⟨(Bk.new W 27 [.slice (some ⟨rb,0,none⟩) m m]).c0,hg.o.k.size,by rw[zK];exact zy _⟩));rw[ae.o]at hl;exact hl
  have x1:=hg.o.y.c2;have x9:=hg.o.y.lt;refine zL (o:=_) rfl (fun K hK=>?_) ?_
  .go_simp;clear x1 x9;refine hK.o _ _ (Aj hg.o.b) (fun _=>?_);clear hK K
   try simp only[zB,zE,zC]
   rw[<-hF.o];have hl:=Lx5x12  W hg oa ob ap;rw[ae.o]at hl;exact hl
  clear x1 x9;refine zL (o:=_) rfl (fun K hK=>?_) ?_
  .go_simp;refine hK.o _ _ (Aj (hg.o.b.alloc _)) (fun _=>?_);clear hK K
   try simp only[zB,zE,zC]
   rw[<-hF.o];have hl:=Lx5x14 W.heap.size (W.alloc (.cells #[.bool x.1,.string x.2.1,.string x.2.2] 34)) (zh ((hg.o.alloc _))) (zh ((oa.o.alloc _))) (zh ((ob.o.alloc _))) (zh (ap.o)) (zh (⟨⟨(Bk.new W 34 [.bool x.1,.string x.2.1,.string x.2.2]).c0,(Bk.new W 34 [.bool x.1,.string x.2.1,.string x.2.2]).c1,(Bk.new W 34 [.bool x.1,.string x.2.1,.string x.2.2]).c2⟩,hg.o.k.size,by rw[zK];exact zy _⟩));rw[ae.o]at hl;exact hl
  exact zQ
 have Lx7x12x14:∀(l7:Nat)(aa:Nat)(W:World),Hid (G22 xb gb uv Aa Ab i ca cb x w W)->Hid (W.ownsRow B1 27 1 (Value.slice Aa i ca) i aj)->Hid (W.ownsRow B1 34 3 (Value.slice Ab i cb) i cbs)->Hid (∀b,(Value.slice Aa i ca).ownBlock=some b->(Value.slice Ab i cb).ownBlock≠some b)->Hid (W.cell? ⟨l7,0,none⟩=some (.slice (some ⟨rb,0,none⟩) m m)/\w.heap.size<=l7/\l7<W.heap.size)->Hid ((W.cell? ⟨aa,0,none⟩=some (.bool x.1)/\W.cell? ⟨aa,1,none⟩=some (.string x.2.1)/\W.cell? ⟨aa,2,none⟩=some (.string x.2.2))/\w.heap.size<=aa/\aa<W.heap.size)->F 9 #[true,true,true,true,true,false,true,true,false,true,true,true,true,true,true,false,false,false,false,false,false,false] (fr ay (.slice (some ⟨l7,0,none⟩) 1 1) an (.slice Ab i cb) (.slice (some ⟨aa,0,none⟩) 1 1) ag) W:=by
  intro l7 aa W hg oa ob ap c7 ad;rw[hF.o,ae.o];dsimp only;refine zT (rs:=[5]) (by kernel_rfl) (by simp) ?_;have x1:=hg.o.y.c1;have x9:=hg.o.y.lt;refine zL (o:=_) rfl (fun K hK=>?_) ?_
  .go_simp;clear x1 x9;refine hK.o _ _ (Aj hg.o.b) (fun _=>?_);clear hK K
   try simp only[zB,zE,zC]
   rw[<-hF.o];have hl:=Lx5x7x12x14 l7 aa W hg oa ob ap c7 ad;rw[ae.o]at hl;exact hl
  clear x1 x9;exact zQ
 have Lx7x12:∀(l7:Nat)(W:World),Hid (G22 xb gb uv Aa Ab i ca cb x w W)->Hid (W.ownsRow B1 27 1 (Value.slice Aa i ca) i aj)->Hid (W.ownsRow B1 34 3 (Value.slice Ab i cb) i cbs)->Hid (∀b,(Value.slice Aa i ca).ownBlock=some b->(Value.slice Ab i cb).ownBlock≠some b)->Hid (W.cell? ⟨l7,0,none⟩=some (.slice (some ⟨rb,0,none⟩) m m)/\w.heap.size<=l7/\l7<W.heap.size)->F 10 #[true,true,true,true,true,false,true,true,false,true,true,true,true,true,false,false,false,false,false,false,false,false] (fr ay (.slice (some ⟨l7,0,none⟩) 1 1) an (.slice Ab i cb) am ag) W:=by
  intro l7 W hg oa ob ap c7;rw[hF.o,ae.o];dsimp only;refine zT (rs:=[5,14]) (by kernel_rfl) (by simp) ?_;have x1:=hg.o.y.c1;have x9:=hg.o.y.lt;refine zL (o:=_) rfl (fun K hK=>?_) ?_
  .go_simp;clear x1 x9;refine hK.o _ _ (Aj hg.o.b) (fun _=>?_);clear hK K
   try simp only[zB,zE,zC]
   rw[<-hF.o];have hl:=Lx5x7x12 l7 W hg oa ob ap c7;rw[ae.o]at hl;exact hl
  clear x1 x9;refine zL (o:=_) rfl (fun K hK=>?_) ?_
  .go_simp;refine hK.o _ _ (Aj (hg.o.b.alloc _)) (fun _=>?_);clear hK K
   try simp only[zB,zE,zC]
   rw[<-hF.o];have hl:=Lx7x12x14 l7 W.heap.size (W.alloc (.cells #[.bool x.1,.string x.2.1,.string x.2.2] 34)) (zh ((hg.o.alloc _))) (zh ((oa.o.alloc _))) (zh ((ob.o.alloc _))) (zh (ap.o)) (zh (⟨(zi _ _ _ c7.o.2.2).trans c7.o.1,c7.o.2.1,by rw[zK];exact xj c7.o.2.2⟩)) (zh (⟨⟨(Bk.new W 34 [.bool x.1,.string x.2.1,.string x.2.2]).c0,(Bk.new W 34 [.bool x.1,.string x.2.1,.string x.2.2]).c1,(Bk.new W 34 [.bool x.1,.string x.2.1,.string x.2.2]).c2⟩,hg.o.k.size,by rw[zK];exact zy _⟩));rw[ae.o]at hl;exact hl
  exact zQ
 have Lx7x14:∀(l7:Nat)(aa:Nat)(W:World),Hid (G22 xb gb uv Aa Ab i ca cb x w W)->Hid (W.ownsRow B1 27 1 (Value.slice Aa i ca) i aj)->Hid (W.ownsRow B1 34 3 (Value.slice Ab i cb) i cbs)->Hid (∀b,(Value.slice Aa i ca).ownBlock=some b->(Value.slice Ab i cb).ownBlock≠some b)->Hid (W.cell? ⟨l7,0,none⟩=some (.slice (some ⟨rb,0,none⟩) m m)/\w.heap.size<=l7/\l7<W.heap.size)->Hid ((W.cell? ⟨aa,0,none⟩=some (.bool x.1)/\W.cell? ⟨aa,1,none⟩=some (.string x.2.1)/\W.cell? ⟨aa,2,none⟩=some (.string x.2.2))/\w.heap.size<=aa/\aa<W.heap.size)->F 10 #[true,true,true,true,true,false,true,true,false,true,true,true,false,true,true,false,false,false,false,false,false,false] (fr ay (.slice (some ⟨l7,0,none⟩) 1 1) an av (.slice (some ⟨aa,0,none⟩) 1 1) ag) W:=by
  intro l7 aa W hg oa ob ap c7 ad;rw[hF.o,ae.o];dsimp only;refine zT (rs:=[5,12]) (by kernel_rfl) (by simp) ?_;have x1:=hg.o.y.c1;have x9:=hg.o.y.lt;refine zL (o:=_) rfl (fun K hK=>?_) ?_
  .go_simp;clear x1 x9;refine hK.o _ _ (Aj hg.o.b) (fun _=>?_);clear hK K
   try simp only[zB,zE,zC]
   rw[<-hF.o];have hl:=Lx5x7x14 l7 aa W hg oa ob ap c7 ad;rw[ae.o]at hl;exact hl
  clear x1 x9;have x1:=hg.o.y.c2;have x9:=hg.o.y.lt;refine zL (o:=_) rfl (fun K hK=>?_) ?_
  .go_simp;clear x1 x9;refine hK.o _ _ (Aj hg.o.b) (fun _=>?_);clear hK K
   try simp only[zB,zE,zC]
   rw[<-hF.o];have hl:=Lx7x12x14 l7 aa W hg oa ob ap c7 ad;rw[ae.o]at hl;exact hl
  clear x1 x9;exact zQ
 have Lx7:∀(l7:Nat)(W:World),Hid (G22 xb gb uv Aa Ab i ca cb x w W)->Hid (W.ownsRow B1 27 1 (Value.slice Aa i ca) i aj)->Hid (W.ownsRow B1 34 3 (Value.slice Ab i cb) i cbs)->Hid (∀b,(Value.slice Aa i ca).ownBlock=some b->(Value.slice Ab i cb).ownBlock≠some b)->Hid (W.cell? ⟨l7,0,none⟩=some (.slice (some ⟨rb,0,none⟩) m m)/\w.heap.size<=l7/\l7<W.heap.size)->F 11 #[true,true,true,true,true,false,true,true,false,true,true,true,false,true,false,false,false,false,false,false,false,false] (fr ay (.slice (some ⟨l7,0,none⟩) 1 1) an av am ag) W:=by
  intro l7 W hg oa ob ap c7;rw[hF.o,ae.o];dsimp only;refine zT (rs:=[5,12,14]) (by kernel_rfl) (by simp) ?_;have x1:=hg.o.y.c1;have x9:=hg.o.y.lt;refine zL (o:=_) rfl (fun K hK=>?_) ?_
  .go_simp;clear x1 x9;refine hK.o _ _ (Aj hg.o.b) (fun _=>?_);clear hK K
   try simp only[zB,zE,zC]
   rw[<-hF.o];have hl:=Lx5x7 l7 W hg oa ob ap c7;rw[ae.o]at hl;exact hl
  clear x1 x9;have x1:=hg.o.y.c2;have x9:=hg.o.y.lt;refine zL (o:=_) rfl (fun K hK=>?_) ?_
  .go_simp;clear x1 x9;refine hK.o _ _ (Aj hg.o.b) (fun _=>?_);clear hK K
   try simp only[zB,zE,zC]
   rw[<-hF.o];have hl:=Lx7x12 l7 W hg oa ob ap c7;rw[ae.o]at hl;exact hl
  clear x1 x9;refine zL (o:=_) rfl (fun K hK=>?_) ?_
  .go_simp;refine hK.o _ _ (Aj (hg.o.b.alloc _)) (fun _=>?_);clear hK K
   try simp only[zB,zE,zC]
   rw[<-hF.o];have hl:=Lx7x14 l7 W.heap.size (W.alloc (.cells #[.bool x.1,.string x.2.1,.string x.2.2] 34)) (zh ((hg.o.alloc _))) (zh ((oa.o.alloc _))) (zh ((ob.o.alloc _))) (zh (ap.o)) (zh (⟨(zi _ _ _ c7.o.2.2).trans c7.o.1,c7.o.2.1,by rw[zK];exact xj c7.o.2.2⟩)) (zh (⟨⟨(Bk.new W 34 [.bool x.1,.string x.2.1,.string x.2.2]).c0,(Bk.new W 34 [.bool x.1,.string x.2.1,.string x.2.2]).c1,(Bk.new W 34 [.bool x.1,.string x.2.1,.string x.2.2]).c2⟩,hg.o.k.size,by rw[zK];exact zy _⟩));rw[ae.o]at hl;exact hl
  exact zQ
 have Lx12x14:∀(aa:Nat)(W:World),Hid (G22 xb gb uv Aa Ab i ca cb x w W)->Hid (W.ownsRow B1 27 1 (Value.slice Aa i ca) i aj)->Hid (W.ownsRow B1 34 3 (Value.slice Ab i cb) i cbs)->Hid (∀b,(Value.slice Aa i ca).ownBlock=some b->(Value.slice Ab i cb).ownBlock≠some b)->Hid ((W.cell? ⟨aa,0,none⟩=some (.bool x.1)/\W.cell? ⟨aa,1,none⟩=some (.string x.2.1)/\W.cell? ⟨aa,2,none⟩=some (.string x.2.2))/\w.heap.size<=aa/\aa<W.heap.size)->F 10 #[true,true,true,true,true,false,true,false,false,true,true,true,true,true,true,false,false,false,false,false,false,false] (fr ay az an (.slice Ab i cb) (.slice (some ⟨aa,0,none⟩) 1 1) ag) W:=by
  intro aa W hg oa ob ap ad;rw[hF.o,ae.o];dsimp only;refine zT (rs:=[5,7]) (by kernel_rfl) (by simp) ?_;have x1:=hg.o.y.c1;have x9:=hg.o.y.lt;refine zL (o:=_) rfl (fun K hK=>?_) ?_
  .go_simp;clear x1 x9;refine hK.o _ _ (Aj hg.o.b) (fun _=>?_);clear hK K
   try simp only[zB,zE,zC]
   rw[<-hF.o];have hl:=Lx5x12x14 aa W hg oa ob ap ad;rw[ae.o]at hl;exact hl
  clear x1 x9;refine zL (o:=_) rfl (fun K hK=>?_) ?_
  .go_simp;refine hK.o _ _ (Aj (hg.o.b.alloc _)) (fun _=>?_);clear hK K
   try simp only[zB,zE,zC]
   rw[<-hF.o];have hl:=Lx7x12x14 W.heap.size aa (W.alloc (.cells #[.slice (some ⟨rb,0,none⟩) m m] 27)) (zh ((hg.o.alloc _))) (zh ((oa.o.alloc _))) (zh ((ob.o.alloc _))) (zh (ap.o)) (zh (⟨(Bk.new W 27 [.slice (some ⟨rb,0,none⟩) m m]).c0,hg.o.k.size,by rw[zK];exact zy _⟩)) (zh (⟨⟨(zi _ _ _ ad.o.2.2).trans ad.o.1.1,(zi _ _ _ ad.o.2.2).trans ad.o.1.2.1,(zi _ _ _ ad.o.2.2).trans ad.o.1.2.2⟩,ad.o.2.1,by rw[zK];exact xj ad.o.2.2⟩));rw[ae.o]at hl;exact hl
  exact zQ
 have Lx12:∀(W:World),Hid (G22 xb gb uv Aa Ab i ca cb x w W)->Hid (W.ownsRow B1 27 1 (Value.slice Aa i ca) i aj)->Hid (W.ownsRow B1 34 3 (Value.slice Ab i cb) i cbs)->Hid (∀b,(Value.slice Aa i ca).ownBlock=some b->(Value.slice Ab i cb).ownBlock≠some b)->F 11 #[true,true,true,true,true,false,true,false,false,true,true,true,true,true,false,false,false,false,false,false,false,false] (fr ay az an (.slice Ab i cb) am ag) W:=by
  intro  W hg oa ob ap;rw[hF.o,ae.o];dsimp only;refine zT (rs:=[5,7,14]) (by kernel_rfl) (by simp) ?_;have x1:=hg.o.y.c1;have x9:=hg.o.y.lt;refine zL (o:=_) rfl (fun K hK=>?_) ?_
  .go_simp;clear x1 x9;refine hK.o _ _ (Aj hg.o.b) (fun _=>?_);clear hK K
   try simp only[zB,zE,zC]
   rw[<-hF.o];have hl:=Lx5x12  W hg oa ob ap;rw[ae.o]at hl;exact hl
  clear x1 x9;refine zL (o:=_) rfl (fun K hK=>?_) ?_
  .go_simp;refine hK.o _ _ (Aj (hg.o.b.alloc _)) (fun _=>?_);clear hK K
   try simp only[zB,zE,zC]
   rw[<-hF.o];have hl:=Lx7x12 W.heap.size (W.alloc (.cells #[.slice (some ⟨rb,0,none⟩) m m] 27)) (zh ((hg.o.alloc _))) (zh ((oa.o.alloc _))) (zh ((ob.o.alloc _))) (zh (ap.o)) (zh (⟨(Bk.new W 27 [.slice (some ⟨rb,0,none⟩) m m]).c0,hg.o.k.size,by rw[zK];exact zy _⟩));rw[ae.o]at hl;exact hl
  refine zL (o:=_) rfl (fun K hK=>?_) ?_
  .go_simp;refine hK.o _ _ (Aj (hg.o.b.alloc _)) (fun _=>?_);clear hK K
   try simp only[zB,zE,zC]
   rw[<-hF.o];have hl:=Lx12x14 W.heap.size (W.alloc (.cells #[.bool x.1,.string x.2.1,.string x.2.2] 34)) (zh ((hg.o.alloc _))) (zh ((oa.o.alloc _))) (zh ((ob.o.alloc _))) (zh (ap.o)) (zh (⟨⟨(Bk.new W 34 [.bool x.1,.string x.2.1,.string x.2.2]).c0,(Bk.new W 34 [.bool x.1,.string x.2.1,.string x.2.2]).c1,(Bk.new W 34 [.bool x.1,.string x.2.1,.string x.2.2]).c2⟩,hg.o.k.size,by rw[zK];exact zy _⟩));rw[ae.o]at hl;exact hl
  exact zQ
 have Lx14:∀(aa:Nat)(W:World),Hid (G22 xb gb uv Aa Ab i ca cb x w W)->Hid (W.ownsRow B1 27 1 (Value.slice Aa i ca) i aj)->Hid (W.ownsRow B1 34 3 (Value.slice Ab i cb) i cbs)->Hid (∀b,(Value.slice Aa i ca).ownBlock=some b->(Value.slice Ab i cb).ownBlock≠some b)->Hid ((W.cell? ⟨aa,0,none⟩=some (.bool x.1)/\W.cell? ⟨aa,1,none⟩=some (.string x.2.1)/\W.cell? ⟨aa,2,none⟩=some (.string x.2.2))/\w.heap.size<=aa/\aa<W.heap.size)->F 11 #[true,true,true,true,true,false,true,false,false,true,true,true,false,true,true,false,false,false,false,false,false,false] (fr ay az an av (.slice (some ⟨aa,0,none⟩) 1 1) ag) W:=by
  intro aa W hg oa ob ap ad;rw[hF.o,ae.o];dsimp only;refine zT (rs:=[5,7,12]) (by kernel_rfl) (by simp) ?_;have x1:=hg.o.y.c1;have x9:=hg.o.y.lt;refine zL (o:=_) rfl (fun K hK=>?_) ?_
  .go_simp;clear x1 x9;refine hK.o _ _ (Aj hg.o.b) (fun _=>?_);clear hK K
   try simp only[zB,zE,zC]
   rw[<-hF.o];have hl:=Lx5x14 aa W hg oa ob ap ad;rw[ae.o]at hl;exact hl
  clear x1 x9;refine zL (o:=_) rfl (fun K hK=>?_) ?_
  .go_simp;refine hK.o _ _ (Aj (hg.o.b.alloc _)) (fun _=>?_);clear hK K
   try simp only[zB,zE,zC]
   rw[<-hF.o];have hl:=Lx7x14 W.heap.size aa (W.alloc (.cells #[.slice (some ⟨rb,0,none⟩) m m] 27)) (zh ((hg.o.alloc _))) (zh ((oa.o.alloc _))) (zh ((ob.o.alloc _))) (zh (ap.o)) (zh (⟨(Bk.new W 27 [.slice (some ⟨rb,0,none⟩) m m]).c0,hg.o.k.size,by rw[zK];exact zy _⟩)) (zh (⟨⟨(zi _ _ _ ad.o.2.2).trans ad.o.1.1,(zi _ _ _ ad.o.2.2).trans ad.o.1.2.1,(zi _ _ _ ad.o.2.2).trans ad.o.1.2.2⟩,ad.o.2.1,by rw[zK];exact xj ad.o.2.2⟩));rw[ae.o]at hl;exact hl
  have x1:=hg.o.y.c2;have x9:=hg.o.y.lt;refine zL (o:=_) rfl (fun K hK=>?_) ?_
  .go_simp;clear x1 x9;refine hK.o _ _ (Aj hg.o.b) (fun _=>?_);clear hK K
   try simp only[zB,zE,zC]
   rw[<-hF.o];have hl:=Lx12x14 aa W hg oa ob ap ad;rw[ae.o]at hl;exact hl
  clear x1 x9;exact zQ
 have L:∀(W:World),Hid (G22 xb gb uv Aa Ab i ca cb x w W)->Hid (W.ownsRow B1 27 1 (Value.slice Aa i ca) i aj)->Hid (W.ownsRow B1 34 3 (Value.slice Ab i cb) i cbs)->Hid (∀b,(Value.slice Aa i ca).ownBlock=some b->(Value.slice Ab i cb).ownBlock≠some b)->F 12 #[true,true,true,true,true,false,true,false,false,true,true,true,false,true,false,false,false,false,false,false,false,false] (fr ay az an av am ag) W:=by
  intro  W hg oa ob ap;rw[hF.o,ae.o];dsimp only;refine zT (rs:=[5,7,12,14]) (by kernel_rfl) (by simp) ?_;have x1:=hg.o.y.c1;have x9:=hg.o.y.lt;refine zL (o:=_) rfl (fun K hK=>?_) ?_
  .go_simp;clear x1 x9;refine hK.o _ _ (Aj hg.o.b) (fun _=>?_);clear hK K
   try simp only[zB,zE,zC]
   rw[<-hF.o];have hl:=Lx5  W hg oa ob ap;rw[ae.o]at hl;exact hl
  clear x1 x9;refine zL (o:=_) rfl (fun K hK=>?_) ?_
  .go_simp;refine hK.o _ _ (Aj (hg.o.b.alloc _)) (fun _=>?_);clear hK K
   try simp only[zB,zE,zC]
   rw[<-hF.o];have hl:=Lx7 W.heap.size (W.alloc (.cells #[.slice (some ⟨rb,0,none⟩) m m] 27)) (zh ((hg.o.alloc _))) (zh ((oa.o.alloc _))) (zh ((ob.o.alloc _))) (zh (ap.o)) (zh (⟨(Bk.new W 27 [.slice (some ⟨rb,0,none⟩) m m]).c0,hg.o.k.size,by rw[zK];exact zy _⟩));rw[ae.o]at hl;exact hl
  have x1:=hg.o.y.c2;have x9:=hg.o.y.lt;refine zL (o:=_) rfl (fun K hK=>?_) ?_
  .go_simp;clear x1 x9;refine hK.o _ _ (Aj hg.o.b) (fun _=>?_);clear hK K
   try simp only[zB,zE,zC]
   rw[<-hF.o];have hl:=Lx12  W hg oa ob ap;rw[ae.o]at hl;exact hl
  clear x1 x9;refine zL (o:=_) rfl (fun K hK=>?_) ?_
  .go_simp;refine hK.o _ _ (Aj (hg.o.b.alloc _)) (fun _=>?_);clear hK K
   try simp only[zB,zE,zC]
   rw[<-hF.o];have hl:=Lx14 W.heap.size (W.alloc (.cells #[.bool x.1,.string x.2.1,.string x.2.2] 34)) (zh ((hg.o.alloc _))) (zh ((oa.o.alloc _))) (zh ((ob.o.alloc _))) (zh (ap.o)) (zh (⟨⟨(Bk.new W 34 [.bool x.1,.string x.2.1,.string x.2.2]).c0,(Bk.new W 34 [.bool x.1,.string x.2.1,.string x.2.2]).c1,(Bk.new W 34 [.bool x.1,.string x.2.1,.string x.2.2]).c2⟩,hg.o.k.size,by rw[zK];exact zy _⟩));rw[ae.o]at hl;exact hl
  exact zQ
 have hl:=L w.drew cn cw cy ap;rw[ae.o]at hl;exact V7 (by kernel_rfl) (by kernel_rfl) (by kernel_rfl) hl
end Sh
end
section
namespace Sh
open Nt Ci
theorem Hb(p:Nat)(f:Nat->Rat)(l m:List Lp):An p f (l++m)=An p f l+An p f m:=by
 induction l with
 |nil=>show An p f m=0+An p f m;grind
 |cons x l ih=>
  rw[yc]
  show (if x.1=p then x.2.2*f x.2.1 else 0)+An p f (l++m)=(if x.1=p then x.2.2*f x.2.1 else 0)+An p f l+An p f m
  rw[ih,Rat.add_assoc]
theorem CO{p:Nat}{f:Nat->Rat}{l:List Lp}{k:Nat}(h:k<l.length):An p f (l.take (k+1))=An p f (l.take k)+if l[k].1=p then l[k].2.2*f l[k].2.1 else 0:=by
 rw[zO h,Hb]
 congr 1
 show (if l[k].1=p then l[k].2.2*f l[k].2.1 else 0)+0=_
 exact wZ _
theorem Ke{p:Nat}{f:Nat->Rat}{l:List Lp}(hp:∀x,x∈l->0<x.2.2)(hf:∀x,x∈l->0<=f x.2.1)(k:Nat):An p f (l.take k)<=An p f l:=by
 have h:=Hb p f (l.take k) (l.drop k);rw[xK]at h;have h2:=BH (p:=p) (f:=f) (L:=l.drop k) (fun x hx=>hp x (wU hx)) fun x hx _=>hf x (wU hx);grind
theorem Caps.take{n:Nat}{L:List Lp}(h:Caps n L)(k:Nat):Caps n (L.take k):=by
 refine⟨fun x hx=>h.lt x (yO hx),fun x hx=>h.whole x (yO hx),fun x hx=>h.pos x (yO hx),fun p=>?_⟩;have h1:=Ke (p:=p) (f:=fun _=>1) h.pos (fun _ _=>by decide) k;have h2:=h.le1 p;grind
theorem Ul{n:Nat}{L:List Lp}(h:Caps n L)(p q:Nat)(b:Bool):Fit 6000 ((if b=true then 1 else 0)-An p (fun h=>if h=q then 1 else 0) L):=by
 have h0:=BH (p:=p) (f:=fun h=>if h=q then 1 else 0) h.pos fun x _ _=>by split<;>decide
 have h1:An p (fun h=>if h=q then 1 else 0) L<=1:=h.le_of (by decide) fun x _ _=>by split<;>decide
 have h2:=h.int_sum (p:=p) (f:=fun h=>if h=q then 1 else 0) (D:=1) fun x _ _=>by
  split
  .exact IsI.one.mul IsI.one
  exact IsI.one.mul IsI.zero
 refine⟨?_,?_,6000,by omega,zA _,?_⟩
 .split<;>grind
 .split<;>grind
 have e:((6000:Nat):Rat)*((if b=true then 1 else 0)-An p (fun h=>if h=q then 1 else 0) L)=(if b=true then 1 else 0)*6000+-(6000*1*An p (fun h=>if h=q then 1 else 0) L):=by
  rw[show ((6000:Nat):Rat)=6000 from rfl];grind
 rw[e];refine IsI.add ?_ h2.neg
 split
 .exact IsI.one.mul (IsI.nat 6000)
 exact IsI.zero.mul (IsI.nat 6000)
theorem PB{n D:Nat}{L:List Lp}(h:Caps n L)(p:Nat){f:Nat->Rat}(hD:0<D)(hf:∀q,0<=f q/\f q<=1)(hi:∀q,IsI ((D:Rat)*f q)):Fit (6000*D) (An p f L):=by
 have h0:=BH (p:=p) (f:=f) h.pos fun x _ _=>(hf x.2.1).1;have h1:An p f L<=1:=h.le_of (by decide) fun x _ _=>(hf x.2.1).2;have h2:=h.int_sum (p:=p) (f:=f) (D:=(D:Rat)) fun x _ _=>hi x.2.1;refine⟨by grind,h1,6000*D,wE (by omega) hD,zA _,?_⟩;rw[xP];exact h2
theorem Sys.congr{n c D:Nat}{A B:Mx}{v:Nat->Rat}(h:Sys n c D A v)(e:∀i j,i<n->j<=n->B i j=A i j):Sys n c D B v:=by
 obtain⟨⟨a1,a2,a3,a4,a5,a6⟩,h2,h3,h4,h5⟩:=h;refine⟨⟨fun i hi=>?_,fun i j hi hj hn=>?_,fun i hi=>?_,fun i hi=>?_,fun i hi=>?_,a6⟩,h2,h3,fun i j hi hj=>?_,fun i hi=>?_⟩
 .rw[e i i hi (by omega)];exact a1 i hi
 .rw[e i j hi (by omega)];exact a2 i j hi hj hn
 .rw[e i n hi (zA _)];exact a3 i hi
 .rw[e i n hi (zA _),Ax (f:=B i) (g:=A i) fun j hj=>e i j hi (by omega)];exact a4 i hi
 .rw[Ax (g:=fun j=>A i j*v j) fun j hj=>by rw[e i j hi (by omega)]];exact a5 i hi
 .rw[e i j hi (by omega)];exact h4 i j hi hj
 rw[e i n hi (zA _)];exact h5 i hi
def Df(L:List Lp)(u:List Nat)(val:Nat->Rat):List (List Raw):=(List.range u.length).map fun i=>AO u.length (Bl L u val i)
def Fv(L:List Lp)(u:List Nat)(val:Nat->Rat):List Raw:=AO u.length fun i=>Bl L u val i u.length
theorem Jw{n:Nat}{f:Nat->Rat}{i:Nat}(h:i<n)(d:Raw):(AO n f).getD i d=rq (f i):=by
 rw[E2 (by rw[Ag];exact h),BE]
theorem Nc{L:List Lp}{u:List Nat}{val:Nat->Rat}{i:Nat}(h:i<u.length):(Df L u val).getD i []=AO u.length (Bl L u val i):=by
 unfold Df;rw[E2 (by simpa using h)];simp
theorem V8{x:Rat}{B:Nat}(h:Fit B x)(hB:B<L1):OkQ x:=(Cv h hB).ok
theorem UU:6000^17<L1:=zl (zV (by omega) (by omega)) Lo
theorem Lu{n D:Nat}{L:List Lp}{F done u:List Nat}{val:Nat->Rat}(hL:Caps n L)(hi:Inv L F done val D)(hx:Nxt L F done u)(ae:done.length+u.length<=16)(h8:u.length<=8):
 DW (Df L u val) (Fv L u val)=.ok (AO u.length fun i=>C8 SQ L u val (u.getD i 0)):=by
 have hs:=hx.sys hL hi
 have aa:∀i j,i<u.length->j<=u.length->OkQ (Bl L u val i j):=fun i j h1 h2=>by
  have:=hs.fit (Mad.start u.length _) hs.shs (zP _) h1 h2;refine V8 (this.mono ?_) UU
  calc 6000^(u.length+1)*D<=6000^(u.length+1)*6000^done.length:=yE _ hi.dle
   _=6000^(u.length+1+done.length):=(xU _ _ _).symm
   _<=6000^17:=zV (by omega) (by omega)
 have d:(Fv L u val).length=u.length:=Ag _ _;have ad:(Df L u val).length=u.length:=by unfold Df;simp
 have hb:allV (Fv L u val)=true:=ES.2 fun i h=>by
  have e:(Fv L u val)[i]=rq (Bl L u val i u.length):=BE u.length (fun i=>Bl L u val i u.length) i h;rw[e];exact Oc (aa i _ (by rwa [d]at h) (zA _))
 have ha:Pu (Fv L u val).length (Df L u val)=true:=La.2 fun i h=>by
  rw[ad]at h;have e:(Df L u val)[i]'(by rw[ad];exact h)=AO u.length (Bl L u val i):=by unfold Df;simp
  rw[e,d];refine⟨Ag _ _,ES.2 fun j hj=>?_⟩;rw[BE];rw[Ag]at hj;exact Oc (aa i j h (xA hj))
 have hM:∀i j,i<u.length->j<=u.length->Hl (Df L u val) (Fv L u val) i j=Bl L u val i j:=fun i j h1 h2=>by
  unfold Hl;rw[d]
  by_cases e:j=u.length
  .rw[zG e,e];unfold Fv;rw[Jw h1,Ik]
  rw[zF e,Nc h1,Jw (by omega),Ik]
 have hS:∀x,Fit ((6000^(u.length+1)*D)*(6000^(u.length+1)*D)) x->SQ x=true:=fun x h=>MY x (h.mono (Jr hi.dle ae));obtain⟨M,m1,m2,_⟩:=(hs.congr hM).result (S:=SQ) hS;obtain⟨N,n1,n2,_⟩:=hs.result (S:=SQ) hS;have hv:C8 SQ L u val=fun p=>if p∈u then N (u.idxOf p) u.length else val p:=by unfold C8;rw[n1]
 have af:∀i,i<u.length->M i u.length=N i u.length:=by
  have h1:Sol u.length (Hl (Df L u val) (Fv L u val)) (fun i=>N i u.length) (fun i=>Hl (Df L u val) (Fv L u val) i u.length):=fun i a=>by
   have h2:(Ao u.length fun j=>Bl L u val i j*N j u.length)=Bl L u val i u.length:=(n2 (fun i=>N i u.length)).2 (fun _ _=>rfl) i a
   show (Ao u.length fun j=>Hl (Df L u val) (Fv L u val) i j*N j u.length)=Hl (Df L u val) (Fv L u val) i u.length
   rw[hM i _ a (zA _),<-h2];exact Ax fun j hj=>by rw[hM i j a (xA hj)]
  exact fun i a=>((m2 _).1 h1 i a).symm
 unfold DW;rw[zG ⟨ad.trans d.symm,hb,ha⟩,zG (by rw[d];exact h8),d,m1]
 show Except.ok (AO u.length fun i=>M i u.length)=_
 congr 1
 apply MO;intro i a;rw[af i a,hv];dsimp only;rw[zG (EV a),Gf hx.nodup a]
theorem Ready.nodup{L:List Lp}{F:List Nat}:∀{us:List (List Nat)} {done:List Nat},Ready L F done us->done.Nodup->(done++us.flatten).Nodup:=by
 intro us
 induction us with
 |nil=>intro done _ h;simpa using h
 |cons u us ih=>
  intro done h hd;rw[wT,<-xw];refine ih h.2 (List.nodup_append.2 ⟨hd,h.1.nodup,fun a ha b hb e=>?_⟩);subst e;exact h.1.new a hb ha
theorem Ready.lt{n:Nat}{F:List Nat}{E:List (Nat×Nat)}:∀p,p∈(BZ n E F).flatten->p<n:=by
 intro p hp;obtain⟨u,hu,hp⟩:=List.mem_flatten.1 hp;unfold BZ at hu;obtain⟨c,hc,rfl⟩:=List.mem_map.1 hu;have h1:=(E8.1 hp).1;unfold Aq at hc;obtain⟨q,_,rfl⟩:=List.mem_map.1 hc;exact(CS.1 h1).1
theorem Iw{n:Nat}{L:List Lp}{F:List Nat}(hL:Caps n L):(BZ n (Am L) F).flatten.length<=n:=by
 have h:=(G9 (F:=F) hL.inN).nodup List.nodup_nil;rw[yP]at h;exact Do n _ h Ready.lt
noncomputable def BL(n:Nat)(E:List (Nat×Nat))(F:List Nat):Bool:=(BZ n E F).any (fun u=>decide (8<u.length))||decide (16<(BZ n E F).flatten.length)
theorem Sm{n:Nat}{L:List Lp}{F:List Nat}(hL:Caps n L)(hn:n<=8):BL n (Am L) F=false:=by
 have h:=Iw (F:=F) hL;unfold BL;rw[Bool.or_eq_false_iff,List.any_eq_false];refine⟨fun u hu=>?_,zD (by omega)⟩;have:u.length<=(BZ n (Am L) F).flatten.length:=(List.sublist_flatten_of_mem hu).length_le;simp only[yV];omega
theorem Nd{n:Nat}{E:List (Nat×Nat)}{F:List Nat}(h:BL n E F=false):(∀u,u∈BZ n E F->u.length<=8)/\(BZ n E F).flatten.length<=16:=by
 unfold BL at h;rw[Bool.or_eq_false_iff,List.any_eq_false]at h;refine⟨fun u hu=>?_,by have:=of_decide_eq_false h.2;omega⟩;have:=h.1 u hu;simp only[yV]at this;omega
section
variable {n:Nat} {L:List Lp} {u:List Nat} {val:Nat->Rat} {i k j:Nat}
def Cj(L:List Lp)(u:List Nat)(i k j:Nat):Rat:=(if i=j then 1 else 0)-An (u.getD i 0) (fun h=>if h=u.getD j 0 then 1 else 0) (L.take k)
def BF(L:List Lp)(u:List Nat)(val:Nat->Rat)(i k:Nat):Rat:=An (u.getD i 0) (fun h=>if h∈u then 0 else val h) (L.take k)
theorem PC:Cj L u i 0 j=if i=j then 1 else 0:=by
 unfold Cj
 show _-(0:Rat)=_
 grind
theorem PD:BF L u val i 0=0:=rfl
theorem Lw(hj:j<u.length):Cj L u i L.length j=Bl L u val i j:=by
 unfold Cj Bl;dsimp only;rw[yi];have e:¬j=u.length:=by omega
 rw[zF e]
theorem Lx:BF L u val i L.length=Bl L u val i u.length:=by
 unfold BF Bl;dsimp only;rw[yi,zG rfl]
theorem Sn(hk:k<L.length)(h:L[k].1≠u.getD i 0):(∀j,Cj L u i (k+1) j=Cj L u i k j)/\BF L u val i (k+1)=BF L u val i k:=by
 refine⟨fun j=>?_,?_⟩
 .unfold Cj;rw[CO hk,zF h,wZ]
 unfold BF;rw[CO hk,zF h,wZ]
theorem V9(hu:u.Nodup)(hk:k<L.length)(h:L[k].1=u.getD i 0){c:Nat}(hc:c<u.length)(hh:L[k].2.1=u.getD c 0):
 (∀j,j<u.length->Cj L u i (k+1) j=if j=c then Cj L u i k c+-1*L[k].2.2 else Cj L u i k j)/\BF L u val i (k+1)=BF L u val i k:=by
 refine⟨fun j hj=>?_,?_⟩
 .unfold Cj;rw[CO hk,zG h,hh]
  by_cases e:j=c
  .subst e;have e1:(if u.getD j 0=u.getD j 0 then (1:Rat) else 0)=1:=zG rfl;rw[e1,zG (rfl:j=j)];grind
  have e1:(if u.getD c 0=u.getD j 0 then (1:Rat) else 0)=0:=zF fun e2=>by
   have:=Gf hu hj;rw[<-e2,Gf hu hc]at this;exact e this.symm
  rw[e1,zF e];grind
 unfold BF;rw[CO hk,zG h,zG (by rw[hh];exact EV hc)];grind
theorem Hv(hk:k<L.length)(h:L[k].1=u.getD i 0)(hh:L[k].2.1∉u):
 (∀j,j<u.length->Cj L u i (k+1) j=Cj L u i k j)/\BF L u val i (k+1)=BF L u val i k+L[k].2.2*val L[k].2.1:=by
 refine⟨fun j hj=>?_,?_⟩
 .unfold Cj;have e1:(if L[k].2.1=u.getD j 0 then (1:Rat) else 0)=0:=zF fun e=>hh (by rw[e];exact EV hj);rw[CO hk,zG h,e1];grind
 unfold BF;rw[CO hk,zG h,zF hh]
theorem Iy(hL:Caps n L):ShortQ (Cj L u i k j):=by
 have:=Ul (hL.take k) (u.getD i 0) (u.getD j 0) (decide (i=j));unfold Cj;simp only[yV]at this;exact Cv this (zl (by have:6000^1<=6000^34:=zV (by omega) (by omega);omega) Lo)
theorem So{D:Nat}(h:D<=6000^16):6000*D<L1:=by
 refine zl ?_ UU
 calc 6000*D<=6000*6000^16:=yE _ h
  _=6000^17:=by rw[zu 6000 16,zn]
structure Vals(val:Nat->Rat)(D:Nat):Prop where
 rng:∀p,0<=val p/\val p<=1
 dp:0<D
 dle:D<=6000^16
 whole:∀p,IsI ((D:Rat)*val p)
theorem Vals.fit{D:Nat}(h:Vals val D)(p:Nat):Fit D (val p):=⟨by have:=(h.rng p).1;grind,(h.rng p).2,D,h.dp,zA _,h.whole p⟩
theorem Vals.short{D:Nat}(h:Vals val D)(p:Nat):ShortQ (val p):=Cv (h.fit p) (zl h.dle (zl (zV (by omega) (by omega)) Lo))
theorem Iz{D:Nat}(hL:Caps n L)(h:Vals val D):ShortQ (BF L u val i k):=by
 have:=PB (hL.take k) (u.getD i 0) (f:=fun q=>if q∈u then 0 else val q) h.dp (fun q=>by
  split
  .constructor<;>decide
  .exact h.rng q) fun q=>by
  split
  .rw[v6];exact IsI.zero
  exact h.whole q
 exact Cv this (So h.dle)
theorem Gi(hL:Caps n L)(hk:k<L.length):Fit 6000 L[k].2.2:=by
 have h1:=hL.pos _ (zN hk);have h2:=hL.whole _ (zN hk);have h3:=hL.le1 L[k].1;have h4:=Ge (p:=L[k].1) (f:=fun _=>0) (g:=fun _=>1) hL.pos (fun _ _ _=>by decide) (zN hk) rfl;rw[Ej fun _ _ _=>rfl]at h4;exact⟨by grind,by grind,6000,by omega,zA _,h2⟩
theorem PE:6000<L1:=zl (by have:6000^1<=6000^34:=zV (by omega) (by omega);omega) Lo
theorem I0(hL:Caps n L)(hk:k<L.length):ShortQ L[k].2.2:=Cv (Gi hL hk) PE
theorem Sp(hL:Caps n L)(hk:k<L.length):ShortQ (-1*L[k].2.2):=by
 obtain⟨a,b,d,d1,d2,d3⟩:=Gi hL hk
 have:Fit 6000 (-1*L[k].2.2):=⟨by grind,by grind,d,d1,d2,by
  have e:(d:Rat)*(-1*L[k].2.2)=-((d:Rat)*L[k].2.2):=by grind
  rw[e];exact d3.neg⟩
 exact Cv this PE
theorem Sq{D:Nat}(hL:Caps n L)(h:Vals val D)(hk:k<L.length)(q:Nat):ShortQ (L[k].2.2*val q):=by
 have h1:=Gi hL hk;have h0:=hL.pos _ (zN hk);have h2:=h.rng q;have h3:=(hL.whole _ (zN hk)).mul (h.whole q)
 have e:6000*L[k].2.2*((D:Rat)*val q)=((6000*D:Nat):Rat)*(L[k].2.2*val q):=by
  rw[xP,show ((6000:Nat):Rat)=6000 from rfl];grind
 rw[e]at h3;have h4:=xX (yw h0) h2.1;have h5:=yB h2.2 (yw h0);have h6:=h1.2.1;have:Fit (6000*D) (L[k].2.2*val q):=⟨by grind,by grind,6000*D,wE (by omega) h.dp,zA _,h3⟩;exact Cv this (So h.dle)
theorem Wt(hu:u.Nodup){h c:Nat}(hc:c<u.length)(e:h=u.getD c 0):Gh (u.map fun(q:Nat)=>(q:Int)) (h:Int)=(c:Int):=by
 have a:c<(u.map fun(q:Nat)=>(q:Int)).length:=by simpa using hc
 refine US a (fun j hj d=>?_) ?_
 .rw[yH];intro e2;have e3:u[j]'(by simpa using hj)=h:=by omega
  rw[e,D9 hc]at e3;have hp:=List.pairwise_iff_getElem.1 hu j c (by simpa using hj) hc d;exact hp e3
 rw[yH,e,D9 hc]
theorem VA{h:Nat}(e:h∉u):Gh (u.map fun(q:Nat)=>(q:Int)) (h:Int)=-1:=by
 refine UT fun j hj=>?_;rw[yH];intro e2
 exact e (by have e3:u[j]'(by simpa using hj)=h:=by omega
             rw[<-e3];exact zN _)
end
theorem kp_trans{xs ys:List Nat}{w w' w'':World}(h:Kp xs w w')(h2:Kp ys w' w'')(hy:∀y,y∈ys->y∈xs\/w.heap.size<=y):Kp xs w w'' :=
 ⟨h2.os.trans h.os,h2.tape.trans h.tape,h2.output.trans h.output,zS h.size h2.size,fun k hk hx=>(h2.block k (zJ hk h.size) (fun hm=>(hy k hm).elim hx (fun c=>by omega))).trans (h.block k hk hx)⟩
theorem Ol{xs:List Nat}{base size m:Nat}{e:TypeId}{u:Value}{l:List Value}{w w':World}(h:w.ownsRow base e size u m l)(hk:Kp xs w w')(hb:∀b,u.ownBlock=some b->b∉xs):w'.ownsRow base e size u m l:=by
 obtain⟨h1,h2⟩:=h;refine⟨h1,?_⟩
 rcases h2 with h2|⟨g,cap,cur,hv,hg,hh,rest⟩
 .exact .inl h2
 exact .inr ⟨g,cap,cur,hv,hg,(hk.block g (Array.getElem?_eq_some_iff.1 hh).1 (hb g (by rw[hv];rfl))).trans hh,rest⟩
theorem Kf{xs:List Nat}{w w':World}{b m:Nat}{r:Nat->Raw}(h:RowB w b m r)(hk:Kp xs w w')(hb:b∉xs):RowB w' b m r:=(hk.block b h.lt hb).trans h
end Sh
end
section
open Go.RowKit Go.Shelf
namespace Sh
open Nt Ci
def BdI(w W:World)(xb m i:Nat)(uv:Value)(M:Mx):Prop :=
 ∃(Aa Ab:Option Addr)(ca cb:Nat)(bl:Nat->Nat),Kp [xb] w W/\Bk W xb 79 [uv,.slice Aa i ca,.slice Ab i cb] /\
  W.ownsRow w.heap.size 27 1 (.slice Aa i ca) i ((List.range i).map fun k=>.slice (some ⟨bl k,0,none⟩) m m) /\
  W.ownsRow w.heap.size 34 3 (.slice Ab i cb) i (AA i fun k=>rq (M k m)) /\
  (∀b,(Value.slice Aa i ca).ownBlock=some b->(Value.slice Ab i cb).ownBlock≠some b) /\
  ∀k,k<i->RowB W (bl k) m (fun j=>rq (M k j))/\(Value.slice Aa i ca).ownBlock≠some (bl k)/\(Value.slice Ab i cb).ownBlock≠some (bl k)/\bl k≠xb
theorem BdI.start{w:World}{xb m:Nat}{uv:Value}{M:Mx}(h:Bk w xb 79 [uv,.slice none 0 0,.slice none 0 0]):BdI w w xb m 0 uv M :=
 ⟨none,none,0,0,fun _=>0,Kp.refl _ _,h,yU _ _ _ _,yU _ _ _ _,(fun b e=>by cases e),fun k h=>absurd h (yJ _)⟩
theorem BdI.step{w wy wz W:World}{xb m i rb:Nat}{uv:Value}{M:Mx}{Aa Ab Aa2 Ab2:Option Addr}{ca cb a h:Nat}{bl:Nat->Nat}
 (hK:Kp [xb] w wy)(ag:wy.ownsRow w.heap.size 27 1 (.slice Aa i ca) i ((List.range i).map fun k=>.slice (some ⟨bl k,0,none⟩) m m))
 (ah:wy.ownsRow w.heap.size 34 3 (.slice Ab i cb) i (AA i fun k=>rq (M k m)))
 (ad:∀k,k<i->RowB wy (bl k) m (fun j=>rq (M k j))/\(Value.slice Aa i ca).ownBlock≠some (bl k)/\(Value.slice Ab i cb).ownBlock≠some (bl k)/\bl k≠xb)
 (hB:Below wy.heap.size wy wz)(ai:rb=wy.heap.size)(ak:xb<wy.heap.size)(aa:RowB wz rb m fun j=>rq (M i j))
 (k1:Kp (xb::((Value.slice Aa i ca).ownBlock.toList++(Value.slice Ab i cb).ownBlock.toList)) wz W)
 (k2:Bk W xb 79 [uv,.slice Aa2 (i+1) a,.slice Ab2 (i+1) h])
 (k3:W.ownsRow w.heap.size 27 1 (.slice Aa2 (i+1) a) (i+1) (((List.range i).map fun k=>.slice (some ⟨bl k,0,none⟩) m m)++[.slice (some ⟨rb,0,none⟩) m m]))
 (k4:W.ownsRow w.heap.size 34 3 (.slice Ab2 (i+1) h) (i+1) ((AA i fun k=>rq (M k m))++[.bool (rq (M i m)).1,.string (rq (M i m)).2.1,.string (rq (M i m)).2.2]))
 (k5:∀b,(Value.slice Aa2 (i+1) a).ownBlock=some b->(Value.slice Ab2 (i+1) h).ownBlock≠some b)
 (k6:(Value.slice Aa2 (i+1) a).ownBlock=(Value.slice Aa i ca).ownBlock\/∃b,(Value.slice Aa2 (i+1) a).ownBlock=some b/\wz.heap.size<=b)
 (k7:(Value.slice Ab2 (i+1) h).ownBlock=(Value.slice Ab i cb).ownBlock\/∃b,(Value.slice Ab2 (i+1) h).ownBlock=some b/\wz.heap.size<=b):BdI w W xb m (i+1) uv M:=by
 have al:=hB.size;have aj:=aa.lt;have la:∀b,(Value.slice Aa i ca).ownBlock=some b->w.heap.size<=b/\b<wy.heap.size:=fun b e=>ag.lt b e;have lb:∀b,(Value.slice Ab i cb).ownBlock=some b->w.heap.size<=b/\b<wy.heap.size:=fun b e=>ah.lt b e
 have ae:∀{b:Nat},b≠xb->(Value.slice Aa i ca).ownBlock≠some b->(Value.slice Ab i cb).ownBlock≠some b->b∉(xb::((Value.slice Aa i ca).ownBlock.toList++(Value.slice Ab i cb).ownBlock.toList)):=fun {b} h1 h2 h3 hm=>by
  rcases List.mem_cons.1 hm with c|c
  .exact h1 c
  rcases List.mem_append.1 c with c|c
  .exact h2 (by simpa using c)
  exact h3 (by simpa using c)
 refine⟨Aa2,Ab2,a,h,fun k=>if k=i then rb else bl k,?_,k2,?_,?_,k5,?_⟩
 .refine kp_trans (hK.below hB) k1 fun y hy=>?_
  rcases List.mem_cons.1 hy with c|c
  .exact .inl (by simp[c])
  rcases List.mem_append.1 c with c|c
  .exact .inr (la y (by simpa using c)).1
  exact .inr (lb y (by simpa using c)).1
 .have e:(List.range (i+1)).map (fun k=>Value.slice (some ⟨if k=i then rb else bl k,0,none⟩) m m)=((List.range i).map fun k=>.slice (some ⟨bl k,0,none⟩) m m)++[.slice (some ⟨rb,0,none⟩) m m]:=by
   rw[xz,xG,vQ,zG rfl]
   congr 1
   refine xB fun k hk=>?_;rw[zF (by have:=List.mem_range.1 hk;omega)]
  rw[e];exact k3
 .rw[BR];exact k4
 intro k hk;dsimp only
 by_cases e:k=i
 .subst e;rw[zG rfl];have n1:(Value.slice Aa k ca).ownBlock≠some rb:=fun e=>by have:=(la _ e).2;omega
  have n2:(Value.slice Ab k cb).ownBlock≠some rb:=fun e=>by have:=(lb _ e).2;omega
  refine⟨Kf aa k1 (ae (by omega) n1 n2),fun e=>?_,fun e=>?_,by omega⟩
  .rcases k6 with c|⟨b,c,d⟩
   .exact n1 (c▸e)
   rw[c]at e;cases e;omega
  rcases k7 with c|⟨b,c,d⟩
  .exact n2 (c▸e)
  rw[c]at e;cases e;omega
 rw[zF e];obtain⟨r1,r2,r3,r4⟩:=ad k (by omega);have af:=r1.lt;refine⟨Kf (r1.below hB af) k1 (ae r4 r2 r3),fun e=>?_,fun e=>?_,r4⟩
 .rcases k6 with c|⟨b,c,d⟩
  .exact r2 (c▸e)
  rw[c]at e;cases e;omega
 rcases k7 with c|⟨b,c,d⟩
 .exact r3 (c▸e)
 rw[c]at e;cases e;omega
theorem Jy{s:SR}(h:As s=true):s.ps.length<=60:=by
 unfold As at h;simp only[yI,yV]at h;exact h.2.1
theorem Gj(k:Int)(q:Rat)(hq:(k:Rat)=q)(hk:-10<=k/\k<=10)(w:World)(hE:Env w):
 Calls Tryz.prog 42 #[.int .i64 k] w fun e w'=>e=.returned (.agg #[.bool (rq (q)).1,.string (rq (q)).2.1,.string (rq (q)).2.2])/\Below w.heap.size w w':=by
 rw[<-hq];exact Jp k hk w hE
theorem Du{s:SR}(a:As s=true){k:Nat}(hk:k<s.cap.length):∃(co ho:Nat)(Ai:Rat),s.cap[k]=((co:Int),(ho:Int),rq Ai)/\(Ae s.cap)[k]'(by unfold Ae;simpa using hk)=(co,ho,Ai)/\co<s.ps.length/\ho<s.ps.length:=by
 obtain⟨⟨h1,h2⟩,⟨h3,h4⟩,h5⟩:=Fn a (zN hk);have hv:=(GY h5).1;have hr:=(ER (x:=lkP s.cap[k]) hv).1;refine⟨s.cap[k].1.toNat,s.cap[k].2.1.toNat,vq (lkP s.cap[k]),?_,by unfold Ae;rw[yH],by omega,by omega⟩;rw[hr];have e1:((s.cap[k].1.toNat:Nat):Int)=s.cap[k].1:=by omega
 have e2:((s.cap[k].2.1.toNat:Nat):Int)=s.cap[k].2.1:=by omega
 rw[e1,e2];rfl
theorem PF{D:Nat}(s:SR)(Ap Ac Av U:Option Addr)(cp cc cv cu:Nat)(u:List Nat)(val:Nat->Rat)(xb vb mb:Nat)(w:World)
 (aU:As s=true)(cf:s.cap.length<=300)(hm:u.length<=8)(hu:u.Nodup)(bS:∀p,p∈u->p<s.ps.length)(hv:Vals val D)
 (hx:Bk w xb 79 [.slice U u.length cu,.slice none 0 0,.slice none 0 0])
 (al:∀W,Kp [xb] w W->Env W)(bo:∀W,Kp [xb] w W->InLk W Ac s.cap)(a5:∀W,Kp [xb] w W->InInt W U (u.map fun(q:Nat)=>(q:Int)))(bj:∀W,Kp [xb] w W->VM W vb mb s.ps.length val):
 Calls Tryz.prog 44 #[.pointer (some ⟨xb,0,none⟩),.agg #[.slice Ap s.ps.length cp,.slice Ac s.cap.length cc,.slice Av s.vot.length cv],.func (.func 43) #[] #[.pointer (some ⟨vb,0,none⟩)]] w fun e w'=>e=.returned (.tuple #[])/\∃w3,Kp [xb] w w3/\BdI w3 w' xb u.length u.length (.slice U u.length cu) (Bl (Ae s.cap) u val):=by
 have b8:=Jy aU;have hL:=Cq aU;have ci:=hx.lt;have bi:Hid (Kp [xb] w (w.alloc (.cells #[.slice Ap s.ps.length cp,.slice Ac s.cap.length cc,.slice Av s.vot.length cv] 25))):=(Kp.refl [xb] w).alloc _;have bO:Hid (Bk (w.alloc (.cells #[.slice Ap s.ps.length cp,.slice Ac s.cap.length cc,.slice Av s.vot.length cv] 25)) w.heap.size 25 (SC s Ap Ac Av cp cc cv)):=Bk.new w _ _;have aX:Hid (Bk (w.alloc (.cells #[.slice Ap s.ps.length cp,.slice Ac s.cap.length cc,.slice Av s.vot.length cv] 25)) xb 79 [.slice U u.length cu,.slice none 0 0,.slice none 0 0]):=hx.alloc _;have bW:=zh (fun W hW=>Gj (-1) (-1) (by decide +kernel) (by omega) W hW);have bq:=zh (fun W hW=>Gj 0 0 (by decide +kernel) (by omega) W hW);have bX:=zh (fun W hW=>Gj 1 1 (by decide +kernel) (by omega) W hW);have kix:Hid (∀W x,Kp [xb] w W->Calls Tryz.prog 74 #[.slice U u.length cu,.int .i64 x] W fun e w'=>e=.returned (.int .i64 (Gh (u.map fun(q:Nat)=>(q:Int)) x))/\w'=W):=fun W x h=>by have:=Ju U cu _ x W (a5 W h) (by rw[zU];omega);rwa [zU]at this
 have kva:Hid (∀W (p:Nat),p<s.ps.length->Kp [xb] w W->Calls Tryz.prog 43 #[.int .i64 (p:Int),.pointer (some ⟨vb,0,none⟩)] W fun e w'=>e=.returned (.agg #[.bool (rq (val p)).1,.string (rq (val p)).2.1,.string (rq (val p)).2.2])/\Below W.heap.size W w'):=fun W p hp h=>Jt s.ps.length val vb mb p hp (by omega) W (al W h) (bj W h);have bI:=zh (fun k h=>Du aU (k:=k) h);have aN:(Ae s.cap).length=s.cap.length:=by unfold Ae;rw[zU]
 have b7:Hid (∀i (h:i<u.length),u[i]<s.ps.length/\u.getD i 0=u[i]):=fun i h=>⟨bS _ (zN h),D9 h⟩;have a9:(u.map fun(q:Nat)=>(q:Int)).length=u.length:=zU ..;replace al:=zh al;replace bo:=zh bo;replace a5:=zh a5;replace bj:=zh bj;replace hL:=zh hL;replace hv:=zh hv;replace hu:=zh hu;replace aU:=zh aU;replace hx:=zh hx;replace aN:=zh aN;replace a9:=zh a9;clear bS;obtain⟨m,ao⟩:∃m,m=u.length:=⟨_,rfl⟩;have k1:=zh (bW.o (w.alloc (.cells #[.slice Ap s.ps.length cp,.slice Ac s.cap.length cc,.slice Av s.vot.length cv] 25)) (al.o _ bi.o));rw[<-ao]at hx aX hm kix ⊢;replace ao:=zh ao;have x0:=aX.o.c0;have x9:=aX.o.lt;go_enter Tryz.func44,Tryz.ntmps44
 go_wp2_with fail
 refine k1.o.mono ?_;rintro e w2 ⟨rfl,hb⟩;have bw:=zh (bi.o.below hb);have bm:=zh (bO.o.below hb);have bb:=zh (aX.o.below hb);clear hb k1 bW x0 x9 bi bO aX;obtain⟨w3,aq⟩:∃W,W=(w2.alloc (.cells #[.bool (rq (-1)).1,.string (rq (-1)).2.1,.string (rq (-1)).2.2] 34)):=⟨_,rfl⟩;obtain⟨mnb,aA⟩:∃x,x=w2.heap.size:=⟨_,rfl⟩;have bx:Hid (Kp [xb] w w3):=by rw[aq];exact bw.o.alloc _
 have bP:Hid (Bk w3 w.heap.size 25 (SC s Ap Ac Av cp cc cv)):=by rw[aq];exact bm.o.alloc _
 have bT:Hid (Bk w3 xb 79 [.slice U m cu,.slice none 0 0,.slice none 0 0]):=by rw[aq];exact bb.o.alloc _
 have be:Hid (Bk w3 mnb 34 [.bool (rq (-1)).1,.string (rq (-1)).2.1,.string (rq (-1)).2.2]):=by rw[aq,aA];exact Bk.new _ _ _
 have bQ:Hid (w2.heap.size<w3.heap.size/\w.heap.size<w2.heap.size):=⟨by rw[aq];simp,bm.o.lt⟩;have x0:=bb.o.c0;have x9:=bb.o.lt
 go_wp2_with fail
 (try rw[<-aq])
 (try rw[<-aA])
 replace aq:=zh aq;clear x0 x9 bw bm bb;have bv:Hid (BdI w3 w3 xb m 0 (.slice U m cu) (Bl (Ae s.cap) u val)):=BdI.start bT.o;have ak:Hid (xb<w3.heap.size/\w.heap.size<w3.heap.size/\mnb<w3.heap.size/\mnb≠xb/\w.heap.size≠xb):=⟨bT.o.lt,bP.o.lt,be.o.lt,by have:=bQ.o;omega,by omega⟩;replace aA:=zh aA
 go_loopw [21] (fun ix wr=>∃(i:Nat),i<=m/\ix=.int .i64 (i:Int)/\Hid (BdI w3 wr xb m i (.slice U m cu) (Bl (Ae s.cap) u val))) (fun ix _=>m-(intOf ix).toNat)
 case atStart=>exact⟨0,zP _,rfl,bv⟩
 case round=>
  clear bv;obtain⟨i,hi,rfl,hI⟩:=hrel;obtain⟨wy,rfl⟩:∃z,z=wr:=⟨_,rfl⟩
  by_cases him:i<m
  rotate_left
  .obtain rfl:i=m:=by omega
   go_wp2
   (try simp only[Exit.inBlock,Exit.then])
   go_end0;exact⟨rfl,w3,bx.o,hI.o⟩
  obtain⟨Aa,Ab,ca,cb,bl,ai,aH,aQ,aR,bk,ax⟩:=hI.o;replace ai:=zh ai;replace aH:=zh aH;replace aQ:=zh aQ;replace aR:=zh aR;replace bk:=zh bk;replace ax:=zh ax;clear hI;have bG:i<u.length:=by rw[<-ao.o];exact him
  have bz:Hid (Kp [xb] w wy):=kp_trans bx.o ai.o (fun y hy=>.inl hy);have an:=zh (fun W (h:Below wy.heap.size wy W)=>bz.o.below h);obtain⟨ub,uo,b0,ch,bR⟩:=(a5.o wy bz.o) (by rw[a9.o];omega);subst b0;have e1:=bR i (by rw[a9.o];omega);rw[yH]at e1;obtain⟨b6,a7⟩:=b7.o i bG;obtain⟨p,hp⟩:∃p,p=u[i]'bG:=⟨_,rfl⟩;rw[<-hp]at e1 b6 a7;replace hp:=zh hp;clear bR;have j0:(0:Int)<=(i:Int):=by omega
  have j1:(i:Int)<(m:Int):=by omega
  have x0:=aH.o.c0;have x9:=aH.o.lt;have b3:=FL 27 Tryz.underlying27 m (by omega);obtain⟨rb,am⟩:∃x,x=wy.heap.size:=⟨_,rfl⟩;obtain⟨w5,aV⟩:∃W,W=(wy.alloc (.cells (AA m fun _=>zraw).toArray 34)):=⟨_,rfl⟩;have br:Hid (Below wy.heap.size wy w5):=by rw[aV];exact(zI _ wy).alloc (zA _) _
  have bA:Hid (RowB w5 rb m fun j=>if j<0 then rq 0 else zraw):=by rw[aV,am];refine RowB.congr (r:=fun _=>zraw) (yM wy _) fun j _=>?_;rw[zF (yJ _)]
  go_wp2_with fail
  (try rw[<-aV])
  (try rw[<-am])
  replace aV:=zh aV;replace am:=zh am;clear b3 x0 x9 e1
  go_loopw [34] (fun kx wr=>∃(k:Nat),k<=m/\kx=.int .i64 (k:Int)/\Hid (Below wy.heap.size wy wr)/\Hid (RowB wr rb m fun j=>if j<k then rq 0 else zraw)) (fun kx _=>m-(intOf kx).toNat)
  case atStart=>exact⟨0,zP _,rfl,br,bA⟩
  case round=>
   clear br bA;obtain⟨k,hk,rfl,a,aj⟩:=hrel;obtain⟨wz,rfl⟩:∃z,z=wr:=⟨_,rfl⟩
   by_cases hkm:k<m
   .have k0:=zh (bq.o wz (al.o _ (an.o _ a.o)));have q0:(0:Int)<=(k:Int):=by omega
    have q1:(k:Int)<(m:Int):=by omega
    go_wp2_with fail
    refine k0.o.mono ?_;rintro e w6 ⟨rfl,hb⟩;have a0:Hid (Below wy.heap.size wy w6):=a.o.trans (hb.mono a.o.size);have ad:Hid (RowB w6 rb m fun j=>if j<k then rq 0 else zraw):=aj.o.below hb aj.o.lt;clear hb k0 a aj;obtain⟨r1,r2,r3⟩:=ad.o.cell hkm;have f1:=ad.o.frozen (k*3);have f2:=ad.o.frozen (k*3+1);have f3:=ad.o.frozen (k*3+2);have r9:=ad.o.lt;have ay:Hid (wy.heap.size<=rb):=ye am.o.symm;have aB:Hid (Below wy.heap.size wy (((w6.setCell ⟨rb,k*3,none⟩ (.bool (rq (0)).1)).setCell ⟨rb,k*3+1,none⟩ (.string (rq (0)).2.1)).setCell ⟨rb,k*3+2,none⟩ (.string (rq (0)).2.2))):=((a0.o.setCell (p:=⟨rb,k*3,none⟩) ay.o _).setCell (p:=⟨rb,k*3+1,none⟩) ay.o _).setCell (p:=⟨rb,k*3+2,none⟩) ay.o _;have aL:Hid (RowB (((w6.setCell ⟨rb,k*3,none⟩ (.bool (rq (0)).1)).setCell ⟨rb,k*3+1,none⟩ (.string (rq (0)).2.1)).setCell ⟨rb,k*3+2,none⟩ (.string (rq (0)).2.2)) rb m fun j=>if j<k+1 then rq 0 else zraw):=(ad.o.set hkm (rq 0)).congr fun j _=>by by_cases c:j=k;(· rw[zG c,zG (by omega)]);(· rw[zF c];by_cases d:j<k;(· rw[zG d,zG (by omega)]);(· rw[zF d,zF (by omega)]))
    generalize (if k<k then rq 0 else zraw)=rz at r1 r2 r3;go_wp2;exact⟨⟨k+1,by omega,by go_num,aB,aL⟩,by simp only[intOf];omega⟩
   obtain rfl:k=m:=by omega
   have av:Hid (RowB wz rb k fun _=>rq 0):=aj.o.congr fun j hj=>by rw[zG hj]
   clear aj;have k2:=zh (bX.o wz (al.o _ (an.o _ a.o)))
   go_wp2_with fail
   refine k2.o.mono ?_;rintro e w6 ⟨rfl,hb⟩;have a0:Hid (Below wy.heap.size wy w6):=a.o.trans (hb.mono a.o.size);have ad:Hid (RowB w6 rb k fun _=>rq 0):=av.o.below hb av.o.lt;clear hb k2 bX a av;obtain⟨r1,r2,r3⟩:=ad.o.cell him;have f1:=ad.o.frozen (i*3);have f2:=ad.o.frozen (i*3+1);have f3:=ad.o.frozen (i*3+2);have r9:=ad.o.lt;have ay:Hid (wy.heap.size<=rb):=ye am.o.symm;obtain⟨w7,aW⟩:∃W,W=(((w6.setCell ⟨rb,i*3,none⟩ (.bool (rq (1)).1)).setCell ⟨rb,i*3+1,none⟩ (.string (rq (1)).2.1)).setCell ⟨rb,i*3+2,none⟩ (.string (rq (1)).2.2)):=⟨_,rfl⟩;have aB:Hid (Below wy.heap.size wy w7):=by rw[aW];exact((a0.o.setCell (p:=⟨rb,i*3,none⟩) ay.o _).setCell (p:=⟨rb,i*3+1,none⟩) ay.o _).setCell (p:=⟨rb,i*3+2,none⟩) ay.o _
   have aL:Hid (RowB w7 rb k fun j=>rq (Cj (Ae s.cap) u i 0 j)):=by rw[aW];exact(ad.o.set him (rq 1)).congr fun j _=>by rw[PC];by_cases c:j=i;(· rw[zG c,zG c.symm]);(· rw[zF c,zF (fun e=>c e.symm)])
   have k3:=zh (bq.o w7 (al.o _ (an.o _ aB.o)))
   go_wp2_with fail
   (try rw[<-aW])
   replace aW:=zh aW;refine k3.o.mono ?_;rintro e w8 ⟨rfl,hb⟩;have a1:Hid (Below wy.heap.size wy w8):=aB.o.trans (hb.mono aB.o.size);have av:Hid (RowB w8 rb k fun j=>rq (Cj (Ae s.cap) u i 0 j)):=aL.o.below hb aL.o.lt;clear hb k3 a0 ad aB aL r1 r2 r3 f1 f2 f3 r9 bq;obtain⟨gb,aE⟩:∃x,x=w8.heap.size:=⟨_,rfl⟩;obtain⟨w9,az⟩:∃W,W=(w8.alloc (.cells #[.bool (rq (0)).1,.string (rq (0)).2.1,.string (rq (0)).2.2] 34)):=⟨_,rfl⟩;have bg:Hid (Below wy.heap.size wy w9):=by rw[az];exact a1.o.alloc a1.o.size _
   have bB:Hid (RowB w9 rb k fun j=>rq (Cj (Ae s.cap) u i 0 j)):=by rw[az];exact av.o.alloc _
   have bs:Hid (Bk w9 gb 34 [.bool (rq (BF (Ae s.cap) u val i 0)).1,.string (rq (BF (Ae s.cap) u val i 0)).2.1,.string (rq (BF (Ae s.cap) u val i 0)).2.2]):=by rw[az,aE,PD];exact Bk.new _ _ _
   have aG:Hid (rb<gb/\wy.heap.size<=gb):=⟨by rw[aE];exact av.o.lt,by rw[aE];exact a1.o.size⟩;have bn:=zh ((bP.o.kp ai.o (by have:=ak.o;simp;omega)).below bg.o);have u1:=bn.o.c1;have u9:=bn.o.lt;rw[az]at u1 u9
   go_wp2_with fail
   (try rw[<-az])
   (try rw[<-aE])
   replace az:=zh az;replace aE:=zh aE;clear u1 u9 a1 av bn
   go_loopw [50] (fun kx wr=>∃(c:Nat),c<=s.cap.length/\kx=.int .i64 (c:Int)/\Hid (Below wy.heap.size wy wr)/\Hid (RowB wr rb k fun j=>rq (Cj (Ae s.cap) u i c j))/\Hid (Bk wr gb 34 [.bool (rq (BF (Ae s.cap) u val i c)).1,.string (rq (BF (Ae s.cap) u val i c)).2.1,.string (rq (BF (Ae s.cap) u val i c)).2.2])) (fun kx _=>s.cap.length-(intOf kx).toNat)
   case atStart=>exact⟨0,zP _,rfl,bg,bB,bs⟩
   case round=>
    clear bg bB bs;obtain⟨c,hc,rfl,a,aj,a3⟩:=hrel;obtain⟨wz,rfl⟩:∃z,z=wr:=⟨_,rfl⟩
    by_cases hcl2:c<s.cap.length
    .obtain ⟨aZ,off,bY,ce,bF⟩:=(bo.o wz (an.o _ a.o)) (by omega);subst bY;obtain⟨e1,e2,e3,e4,e5⟩:=bF c hcl2;obtain⟨co,ho,Ai,aO,ae,cg,b1⟩:=bI.o c hcl2;rw[aO]at e1 e2 e3 e4 e5;replace e1:wz.cell? ⟨aZ,off+c*5,none⟩=some (.int .i64 (co:Int)):=e1;replace e2:wz.cell? ⟨aZ,off+c*5+1,none⟩=some (.int .i64 (ho:Int)):=e2;replace e3:wz.cell? ⟨aZ,off+c*5+2,none⟩=some (.bool (rq Ai).1):=e3;replace e4:wz.cell? ⟨aZ,off+c*5+3,none⟩=some (.string (rq Ai).2.1):=e4;replace e5:wz.cell? ⟨aZ,off+c*5+4,none⟩=some (.string (rq Ai).2.2):=e5;have af:c<(Ae s.cap).length:=by rw[aN.o];exact hcl2
     have aT:(Ae s.cap)[c].2.2=Ai:=by rw[ae]
     have aS:=I0 hL.o af;have a6:=Sp hL.o af;have b5:=zh (fun q=>Sq hL.o hv.o af q);rw[aT]at aS a6;replace aS:=zh aS;replace a6:=zh a6;have bp:Hid (co≠p->(∀j,Cj (Ae s.cap) u i (c+1) j=Cj (Ae s.cap) u i c j)/\BF (Ae s.cap) u val i (c+1)=BF (Ae s.cap) u val i c):=fun b4=>Sn af (by rw[ae,a7];exact b4);have bH:Hid (co=p->∀t (ht:t<u.length),ho=u.getD t 0->(∀j,j<u.length->Cj (Ae s.cap) u i (c+1) j=if j=t then Cj (Ae s.cap) u i c t+-1*Ai else Cj (Ae s.cap) u i c j)/\BF (Ae s.cap) u val i (c+1)=BF (Ae s.cap) u val i c):=fun he t ht hh=>by have h:=V9 (val:=val) (i:=i) hu.o af (by rw[ae,a7];exact he) ht (by rw[ae];exact hh);rwa [aT]at h
     have bf:Hid (co=p->ho∉u->(∀j,j<u.length->Cj (Ae s.cap) u i (c+1) j=Cj (Ae s.cap) u i c j)/\BF (Ae s.cap) u val i (c+1)=BF (Ae s.cap) u val i c+Ai*val ho):=fun he hh=>by have h:=Hv (val:=val) (i:=i) af (by rw[ae,a7];exact he) (by rw[ae];exact hh);rwa [ae]at h
     replace aO:=zh aO;replace ae:=zh ae;replace aT:=zh aT;replace af:=zh af;clear bF;have c0:(0:Int)<=(c:Int):=by omega
     have c1:(c:Int)<(s.cap.length:Int):=by omega
     obtain⟨lb,aF⟩:∃x,x=wz.heap.size:=⟨_,rfl⟩;obtain⟨wa,ar⟩:∃W,W=(wz.alloc (.cells #[.int .i64 (co:Int),.int .i64 (ho:Int),.bool (rq Ai).1,.string (rq Ai).2.1,.string (rq Ai).2.2] 55)):=⟨_,rfl⟩;have aI:Hid (Below wy.heap.size wy wa):=by rw[ar];exact a.o.alloc a.o.size _
     have a4:Hid (RowB wa rb k fun j=>rq (Cj (Ae s.cap) u i c j)):=by rw[ar];exact aj.o.alloc _
     have a2:Hid (Bk wa gb 34 [.bool (rq (BF (Ae s.cap) u val i c)).1,.string (rq (BF (Ae s.cap) u val i c)).2.1,.string (rq (BF (Ae s.cap) u val i c)).2.2]):=by rw[ar];exact a3.o.alloc _
     have ag:Hid (Bk wa lb 55 [.int .i64 (co:Int),.int .i64 (ho:Int),.bool (rq Ai).1,.string (rq Ai).2.1,.string (rq Ai).2.2]):=by rw[ar,aF];exact Bk.new _ _ _
     have bK:Hid (rb≠lb/\gb≠lb):=⟨by rw[aF];exact yv aj.o.lt,by rw[aF];exact yv a3.o.lt⟩;have y0:=ag.o.c0;have y1:=ag.o.c1;have y9:=ag.o.lt;rw[ar,aF]at y0 y1 y9
     by_cases hcp:co=p
     rotate_left
     .have t1:((co:Int) != (p:Int))=true:=by rw[yC];omega
      have aa:=bp.o hcp;have bC:Hid (RowB wa rb k fun j=>rq (Cj (Ae s.cap) u i (c+1) j)):=a4.o.congr fun j _=>by rw[aa.1 j]
      have bt:Hid (Bk wa gb 34 [.bool (rq (BF (Ae s.cap) u val i (c+1))).1,.string (rq (BF (Ae s.cap) u val i (c+1))).2.1,.string (rq (BF (Ae s.cap) u val i (c+1))).2.2]):=by rw[aa.2];exact a2.o
      replace hcp:=zh hcp;rw[ar]at aI bC bt;clear aa bp bH bf a4 a2 ag;go_wp2;exact⟨⟨c+1,by omega,by go_num,aI,bC,bt⟩,by simp only[intOf];omega⟩
     have t1:((co:Int) != (p:Int))=false:=by rw[zZ];omega
     have bd:=zh hcp;clear hcp;have aY:=zh (aH.o.below aI.o);clear bp y0 y1 y9;have y0:=ag.o.c0;have y9:=ag.o.lt;rw[ar,aF]at y0 y9
     go_wp2_with fail
     subst ar;subst aF;clear y0 y9;have b2:=zh (fun W (h:Below wy.heap.size wy W)=>an.o W h);have ah:Hid (Below wy.heap.size wy (wz.alloc (.cells #[.int .i64 (co:Int),.int .i64 (ho:Int),.bool (rq Ai).1,.string (rq Ai).2.1,.string (rq Ai).2.2] 55)).drew):=aI.o.drew;have bE:Hid ((wz.alloc (.cells #[.int .i64 (co:Int),.int .i64 (ho:Int),.bool (rq Ai).1,.string (rq Ai).2.1,.string (rq Ai).2.2] 55)).drew.cell? ⟨xb,0,none⟩=some (.slice (some ⟨ub,uo,none⟩) k cu)/\(wz.alloc (.cells #[.int .i64 (co:Int),.int .i64 (ho:Int),.bool (rq Ai).1,.string (rq Ai).2.1,.string (rq Ai).2.2] 55)).drew.cell? ⟨wz.heap.size,1,none⟩=some (.int .i64 (ho:Int))):=⟨aY.o.c0,ag.o.c1⟩;have x0:=aY.o.c0;have x9:=aY.o.lt;have y1:=ag.o.c1;have y9:=ag.o.lt
     go_region_held3 (fun W=>W.cell? ⟨xb,0,none⟩=some (.slice (some ⟨ub,uo,none⟩) k cu)/\W.cell? ⟨wz.heap.size,1,none⟩=some (.int .i64 (ho:Int))) (first|(with_reducible exact bE.o)|(with_reducible exact⟨aY.o.c0,ag.o.c1⟩)|go_keep) (first|(go_at_call 74;refine(kix.o _ _ (b2.o _ ah.o)).mono ?_;rintro e w7b ⟨rfl,hq⟩;obtain rfl:=hq.symm))
     clear x0 x9 y1 y9 bE;have aM:Hid (RowB (wz.alloc (.cells #[.int .i64 (co:Int),.int .i64 (ho:Int),.bool (rq Ai).1,.string (rq Ai).2.1,.string (rq Ai).2.2] 55)).drew rb k fun j=>rq (Cj (Ae s.cap) u i c j)):=a4.o;have aJ:Hid (Bk (wz.alloc (.cells #[.int .i64 (co:Int),.int .i64 (ho:Int),.bool (rq Ai).1,.string (rq Ai).2.1,.string (rq Ai).2.2] 55)).drew gb 34 [.bool (rq (BF (Ae s.cap) u val i c)).1,.string (rq (BF (Ae s.cap) u val i c)).2.1,.string (rq (BF (Ae s.cap) u val i c)).2.2]):=a2.o;have aK:Hid (Bk (wz.alloc (.cells #[.int .i64 (co:Int),.int .i64 (ho:Int),.bool (rq Ai).1,.string (rq Ai).2.1,.string (rq Ai).2.2] 55)).drew wz.heap.size 55 [.int .i64 (co:Int),.int .i64 (ho:Int),.bool (rq Ai).1,.string (rq Ai).2.1,.string (rq Ai).2.2]):=ag.o;obtain⟨wd,ba⟩:∃W,W=(wz.alloc (.cells #[.int .i64 (co:Int),.int .i64 (ho:Int),.bool (rq Ai).1,.string (rq Ai).2.1,.string (rq Ai).2.2] 55)).drew:=⟨_,rfl⟩;rw[<-ba]at ah aM aJ aK
     (try rw[<-ba])
     replace ba:=zh ba;clear aI a4 a2 ag aY;have aP:Hid (Bk wd mnb 34 [.bool (rq (-1)).1,.string (rq (-1)).2.1,.string (rq (-1)).2.2]):=(be.o.kp ai.o (by have:=ak.o;simp;omega)).below ah.o;have bJ:Hid (rb≠mnb):=fun e=>by have h1:=ak.o;have h2:=ai.o.size;have h3:=am.o;omega
     by_cases hu1:ho∈u
     .obtain⟨t,ht,a8⟩:∃t,t<u.length/\ho=u.getD t 0:=⟨u.idxOf ho,List.idxOf_lt_length_iff.2 hu1,(Gg hu1).symm⟩;have aw:Gh (u.map fun(q:Nat)=>(q:Int)) (ho:Int)=(t:Int):=Wt hu.o ht a8;have aa:=bH.o bd.o t ht a8;rw[aw];rw[<-ao.o]at ht aa;replace aa:=zh aa;replace aw:=zh aw;replace hu1:=zh hu1;replace a8:=zh a8;have t2:decide ((0:Int)<=(t:Int))=true:=zH (by omega)
      go_wp2_with fail
      refine WG mnb rb wz.heap.size k t _ (Cj (Ae s.cap) u i c t) Ai _ _ wd (al.o _ (an.o _ ah.o)) ht (by omega) aM.o rfl aP.o aK.o bJ.o bK.o.1 (Iy hL.o) aS.o a6.o ?_;intro _ _ _ _ _ _ _ _ _ _ _ we bD au;have bh:Hid (Below wy.heap.size wy we):=au.o.to_below ah.o (fun x hx=>by have:=am.o;simp at hx;omega);have aD:Hid (RowB we rb k fun j=>rq (Cj (Ae s.cap) u i (c+1) j)):=bD.o.congr fun j hj=>by rw[aa.o.1 j hj];split<;>rfl
      have aC:Hid (Bk we gb 34 [.bool (rq (BF (Ae s.cap) u val i (c+1))).1,.string (rq (BF (Ae s.cap) u val i (c+1))).2.1,.string (rq (BF (Ae s.cap) u val i (c+1))).2.2]):=by rw[aa.o.2];exact aJ.o.kp au.o (by have:=aG.o;simp;omega)
      clear bD au aM aJ aK ah aP;go_wp2;exact⟨⟨c+1,by omega,by go_num,bh,aD,aC⟩,by simp only[intOf];omega⟩
     have aw:Gh (u.map fun(q:Nat)=>(q:Int)) (ho:Int)=-1:=VA hu1;have aa:=bf.o bd.o hu1;rw[aw];rw[<-ao.o]at aa;replace aa:=zh aa;replace aw:=zh aw;replace hu1:=zh hu1;have bM:=zh (b5.o ho);rw[aT.o]at bM
     go_wp2_with fail
     refine WH gb wz.heap.size vb (ho:Int) (BF (Ae s.cap) u val i c) Ai (val ho) _ wd (al.o _ (an.o _ ah.o)) aJ.o aK.o bK.o.2 (Iz hL.o hv.o) aS.o (hv.o.short ho) bM.o (fun W hW=>kva.o W ho b1 (an.o _ (ah.o.trans (hW.mono ah.o.size)))) ?_;intro _ _ _ _ _ _ _ _ we bu au;have bh:Hid (Below wy.heap.size wy we):=au.o.to_below ah.o (fun x hx=>by have:=aG.o;simp at hx;omega);have aD:Hid (RowB we rb k fun j=>rq (Cj (Ae s.cap) u i (c+1) j)):=(Kf aM.o au.o (by have:=aG.o;simp;omega)).congr fun j hj=>by rw[aa.o.1 j hj]
     have aC:Hid (Bk we gb 34 [.bool (rq (BF (Ae s.cap) u val i (c+1))).1,.string (rq (BF (Ae s.cap) u val i (c+1))).2.1,.string (rq (BF (Ae s.cap) u val i (c+1))).2.2]):=by rw[aa.o.2];exact bu.o
     clear bu au aM aJ aK ah aP;go_wp2;exact⟨⟨c+1,by omega,by go_num,bh,aD,aC⟩,by simp only[intOf];omega⟩
    obtain rfl:c=s.cap.length:=by omega
    have aD:Hid (RowB wz rb k fun j=>rq (Bl (Ae s.cap) u val i j)):=aj.o.congr fun j hj=>by rw[<-aN.o,Lw (val:=val) (by rw[<-ao.o];exact hj)]
    have aC:Hid (Bk wz gb 34 [.bool (rq (Bl (Ae s.cap) u val i k)).1,.string (rq (Bl (Ae s.cap) u val i k)).2.1,.string (rq (Bl (Ae s.cap) u val i k)).2.2]):=by have h:=a3.o;rw[<-aN.o,Lx,<-ao.o]at h;exact h
    have bU:=zh (aH.o.below a.o);have bL:=zh (AS aQ.o a.o);have bN:=zh (AS aR.o a.o);clear aj a3 bI kix kva
    go_wp2_with fail
    refine WI xb gb rb k i ca cb w3.heap.size Aa Ab _ _ _ (rq (Bl (Ae s.cap) u val i k)) wz (by omega) bU.o aC.o (by have h1:=ak.o;have h2:=ai.o.size;have h3:=aG.o;omega) (zS ai.o.size a.o.size) ak.o.1 bL.o bN.o bk.o (fun e=>by have h1:=(aQ.o.lt _ e).2;have h3:=aG.o;omega) (fun e=>by have h1:=(aR.o.lt _ e).2;have h3:=aG.o;omega) ?_;intro _ _ _ _ _ _ _ _ _ _ _ _ _ _ _ _ _ _ _ _ Aa2 Ab2 b9 cd we k1 k2 k3 k4 k5 k6 k7;have bZ:Hid (BdI w3 we xb k (i+1) (.slice (some ⟨ub,uo,none⟩) k cu) (Bl (Ae s.cap) u val)):=BdI.step ai.o aQ.o aR.o ax.o a.o am.o (by have h1:=ak.o;have h2:=ai.o.size;omega) aD.o k1.o k2.o k3.o k4.o k5.o k6.o k7.o;clear k1 k2 k3 k4 k5 k6 k7 bU bL bN aD aC a;go_wp2;exact⟨⟨i+1,by omega,by go_num,bZ⟩,by simp only[intOf];omega⟩
theorem I1{n D:Nat}{L:List Lp}{u:List Nat}{val:Nat->Rat}(hL:Caps n L)(hv:Vals val D){i j:Nat}(hj:j<=u.length):ShortQ (Bl L u val i j):=by
 by_cases e:j=u.length
 .rw[e,<-Lx];exact Iz hL hv
 rw[<-Lw (val:=val) (by omega:j<u.length)];exact Iy hL
theorem I2{W:World}{b n:Nat}{f:Nat->Rat}(h:RowB W b n fun j=>rq (f j)):InRow W (some ⟨b,0,none⟩) (AO n f):=fun _=>⟨b,0,rfl,h.lt,fun j hj=>by
 have a:j<n:=by rwa [Ag]at hj
 obtain⟨c1,c2,c3⟩:=h.cell a;rw[BE];rw[yD];exact⟨c1,c2,c3⟩⟩
theorem BdI.slv{n D:Nat}{w W:World}{xb:Nat}{uv:Value}{L:List Lp}{u:List Nat}{val:Nat->Rat}(h:BdI w W xb u.length u.length uv (Bl L u val))(hL:Caps n L)(hv:Vals val D)(h8:u.length<=8):
 ∃(Aa Ab:Option Addr)(ca cb:Nat)(la:List RowH),Kp [xb] w W/\Bk W xb 79 [uv,.slice Aa u.length ca,.slice Ab u.length cb]/\la.length=u.length/\SysIn W Aa Ab la (Fv L u val)/\BD la=Df L u val:=by
 obtain⟨Aa,Ab,ca,cb,bl,hK,hx,ae,af,ag,d⟩:=h
 let la:List RowH:=(List.range u.length).map fun k=>((some ⟨bl k,0,none⟩:Option Addr),u.length,AO u.length (Bl L u val k))
 have a:la.length=u.length:=by simp[la]
 have aa:∀x∈la,∃k,k<u.length/\x=((some ⟨bl k,0,none⟩:Option Addr),u.length,AO u.length (Bl L u val k)):=fun x hx=>by
  obtain⟨k,hk,rfl⟩:=List.mem_map.1 hx;exact⟨k,List.mem_range.1 hk,rfl⟩
 have ad:(List.range u.length).map (fun k=>Value.slice (some ⟨bl k,0,none⟩) u.length u.length)=la.map hdr:=by
  simp only[la,xh];refine xB fun k _=>?_;simp[hdr,Ag]
 obtain ⟨A1,c1,e1,hM⟩:=inMat_of_own (L:=la) (v:=.slice Aa u.length ca) (by rw[<-ad,a];exact ae) (fun x hx=>by
  obtain⟨k,hk,rfl⟩:=aa x hx;exact I2 (d k hk).1)
 obtain⟨A2,c2,e2,hR⟩:=E1 af;rw[a]at e1;injection e1 with q1 _ _;injection e2 with q2 _ _;subst q1;subst q2;refine⟨Aa,Ab,ca,cb,la,hK,hx,a,⟨hM,hR,by omega,by rw[show (Fv L u val).length=u.length from Ag _ _];omega,fun x hx=>?_,fun x hx=>?_⟩,?_⟩
 .obtain⟨k,hk,rfl⟩:=aa x hx;refine⟨by show (AO _ _).length<=_;rw[Ag];omega,fun y hy=>?_⟩;obtain⟨j,hj,rfl⟩:=List.mem_map.1 (show y∈AO u.length (Bl L u val k) from hy);exact Lb (I1 hL hv (xA (List.mem_range.1 hj))).ok
 .obtain⟨j,hj,rfl⟩:=List.mem_map.1 (show x∈AO u.length (fun i=>Bl L u val i u.length) from hx);exact Lb (I1 hL hv (zA _)).ok
 simp[BD,la,Df,List.map_map]
theorem Um{n D:Nat}{L:List Lp}{F done u:List Nat}{val:Nat->Rat}(hL:Caps n L)(hi:Inv L F done val D)(hx:Nxt L F done u)(a:done.length+u.length<=16)(h8:u.length<=8)
 {W:World}{Aa Ab:Option Addr}{ca cb:Nat}{la:List RowH}(hE:Env W)(hl:la.length=u.length)(hs:SysIn W Aa Ab la (Fv L u val))(hr:BD la=Df L u val):
 Calls Tryz.prog 45 #[.slice Aa u.length ca,.slice Ab u.length cb] W fun e w'=>(∃p c,e=.returned (.tuple #[.slice p u.length c,.int .i64 0])/\InRow w' p (AO u.length fun i=>C8 SQ L u val (u.getD i 0)))/\Below W.heap.size W w':=by
 have h:=Uc Aa Ab ca cb la (Fv L u val) W hE hs;have hb:(Fv L u val).length=u.length:=Ag _ _;rw[hr,Lu hL hi hx a h8,hl,hb]at h;refine h.mono fun e w' ⟨⟨p,c,e1,e2⟩,hB⟩=>⟨⟨p,c,?_,e2⟩,hB⟩;rw[e1]
 show Ending.returned (.tuple #[.slice p (AO u.length _).length c,.int .i64 0])=_
 rw[Ag]
end Sh
end
section
open Go.RowKit Go.Shelf
attribute [local go_sem] wB
namespace Bd
open Nt Ci Sh
theorem GB{B:Nat}{W A:World}{row:Option Nat}{b:Nat}{t:TypeId}{cs:List Value}(h:Bk W b t cs)(hg:W.grownBy A row)(hr:∀r,row=some r->B<=r/\∃o:Obj,W.heap[r]? = some o/\o.isCells=false):Bk A b t cs :=
 h.grown hg fun e=>by
  obtain⟨_,o,ho,hn⟩:=hr b e.symm;rw[show W.heap[b]? = some (.cells cs.toArray t (0,0)) from h]at ho
  cases ho;cases hn
def DL(L:List Lp)(val:Nat->Rat)(i:Nat):Rat:=(L.getD i (0,0,0)).2.2*val (L.getD i (0,0,0)).2.1
def E9{n:Nat}(L:List Lp)(val:Nat->Rat)(pre:List (EI n)):Rat:=pre.foldl (fun a i=>a+DL L val i.1) 0
theorem GC{n:Nat}(L:List Lp)(val:Nat->Rat)(pre:List (EI n))(x:EI n):E9 L val (pre++[x])=E9 L val pre+DL L val x.1:=by
 unfold E9;rw[va];rfl
theorem GD{s:SR}(h:As s=true)(val:Nat->Rat)(p:Nat):∀k,k<=s.cap.length->E9 (Ae s.cap) val (E4 (p:Int) s.cap k)=An p val ((Ae s.cap).take k)
 |0,_=>by rw[wJ];rfl
 |k + 1,hk=>by
  have aa:(Ae s.cap).length=s.cap.length:=by unfold Ae;rw[zU]
  obtain⟨co,ho,Ai,ae,d,ag,ah⟩:=Du h (k:=k) (by omega);have af:=CO (p:=p) (f:=val) (l:=Ae s.cap) (k:=k) (by rw[aa];omega);have a:=Jo (p:Int) s.cap (k:=k) (by omega);rw[ae]at a;dsimp only at a;rw[af,d,a];have ih:=GD h val p k (by omega);dsimp only
  by_cases c:co=p
  .have ad:k<(Ae s.cap).length:=by omega
   have ht:DL (Ae s.cap) val k=Ai*val ho:=by
    unfold DL;rw[yX,zY ad,d];rfl
   rw[zG c,zG (by omega),GC,ih];exact congrArg (An p val ((Ae s.cap).take k)+·) ht
  rw[zF c,zF (by omega),wN,ih,wZ]
theorem Ly(s:SR)(Ap Ac Av Aw Ar:Option Addr)(cp cc cv cw cr nr:Nat)(ab:Bool)(sb qb p:Nat)(val:Nat->Rat)(w:World)(hE:Env w)(hc:InLk w Ac s.cap)(aA:As s=true)(a6:s.cap.length<=300)
 (hv:InRow w Aw (AO s.ps.length val))(aD:∀q,q<s.ps.length->ShortQ (val q))(az:∀i,i<s.cap.length->ShortQ (DL (Ae s.cap) val i))(aB:∀pre:List (EI s.cap.length),pre.length<=s.cap.length->ShortQ (E9 (Ae s.cap) val pre))
 (hS:Bk w sb 25 [.slice Ap s.ps.length cp,.slice Ac s.cap.length cc,.slice Av s.vot.length cv])(hQ:Bk w qb 29 [.bool ab,.slice Aw s.ps.length cw,.slice Ar nr cr]):
 Calls Tryz.prog 26 #[.int .i64 (p:Int),.pointer (some ⟨sb,0,none⟩),.pointer (some ⟨qb,0,none⟩)] w fun e w'=>e=.returned (.agg #[.bool (rq (An p val (Ae s.cap))).1,.string (rq (An p val (Ae s.cap))).2.1,.string (rq (An p val (Ae s.cap))).2.2])/\Below w.heap.size w w':=by
 have hL:=Cq aA;have u0:=hS.c0;have u1:=hS.c1;have u2:=hS.c2;have u9:=hS.lt;have kh:=zh (fun W=>GR s Ap Ac Av cp cc cv (p:Int) W);have aM:Hid (([.bool false,.string ⟨#[48]⟩,.string ⟨#[49]⟩]:List Value)=[.bool (rq (0)).1,.string (rq (0)).2.1,.string (rq (0)).2.2]):=zh (by kernel_rfl);obtain⟨w1,ag⟩:∃W,W=(((w.alloc (.cells #[.bool false,.string ⟨#[]⟩,.string ⟨#[]⟩] 34)).alloc (.cells #[.bool false,.string ⟨#[48]⟩,.string ⟨#[49]⟩] 34)).alloc (.cells #[.slice Ap s.ps.length cp,.slice Ac s.cap.length cc,.slice Av s.vot.length cv] 25)).alloc (.cells #[.int .i64 (p:Int)] 3):=⟨_,rfl⟩;have a9:w1.heap.size=w.heap.size+4:=by rw[ag];simp
 have aE:Hid (Below w.heap.size w w1):=by rw[ag];exact((((zI _ w).alloc (zA _) _).alloc (by simp) _).alloc (by simp;omega) _).alloc (by simp;omega) _
 have aP:Hid (Bk w1 w.heap.size 34 [.bool false,.string ⟨#[]⟩,.string ⟨#[]⟩]):=by rw[ag];exact(((Bk.new w _ _).alloc _).alloc _).alloc _
 have aT:Hid (Bk w1 (w.heap.size+1) 34 [.bool (rq (0)).1,.string (rq (0)).2.1,.string (rq (0)).2.2]):=by
  rw[ag,<-aM.o];have h:=Bk.new (w.alloc (.cells #[.bool false,.string ⟨#[]⟩,.string ⟨#[]⟩] 34)) 34 [.bool false,.string ⟨#[48]⟩,.string ⟨#[49]⟩];rw[zK]at h;exact(h.alloc _).alloc _
 have aR:Hid (Bk w1 (w.heap.size+1+1) 25 [.slice Ap s.ps.length cp,.slice Ac s.cap.length cc,.slice Av s.vot.length cv]):=by
  rw[ag];have h:=Bk.new ((w.alloc (.cells #[.bool false,.string ⟨#[]⟩,.string ⟨#[]⟩] 34)).alloc (.cells #[.bool false,.string ⟨#[48]⟩,.string ⟨#[49]⟩] 34)) 25 [.slice Ap s.ps.length cp,.slice Ac s.cap.length cc,.slice Av s.vot.length cv];rw[zK,zK]at h;exact h.alloc _
 have aG:Hid (Bk w1 (w.heap.size+1+1+1) 3 [.int .i64 (p:Int)]):=by
  rw[ag];have h:=(Bk.new (((w.alloc (.cells #[.bool false,.string ⟨#[]⟩,.string ⟨#[]⟩] 34)).alloc (.cells #[.bool false,.string ⟨#[48]⟩,.string ⟨#[49]⟩] 34)).alloc (.cells #[.slice Ap s.ps.length cp,.slice Ac s.cap.length cc,.slice Av s.vot.length cv] 25)) 3 [.int .i64 (p:Int)]);rw[zK,zK,zK]at h;exact h
 have aO:Hid (w1.cell? ⟨w.heap.size+1+1+1,0,none⟩=some (.int .i64 (p:Int))):=aG.o.c0;have aU:Hid (InLk w1 Ac s.cap):=hc.below aE.o
 have aV:Hid (0<s.cap.length->∀b o,Ac=some ⟨b,o,none⟩->b<w.heap.size):=fun h0 b o e=>by
  obtain⟨b',o',e',hl,_⟩:=hc h0;rw[e]at e';cases e';exact hl
 replace hE:=zh hE;replace hc:=zh hc;replace hv:=zh hv;replace aD:=zh aD;replace az:=zh az;replace aB:=zh aB;replace hS:=zh hS;replace hQ:=zh hQ;replace hL:=zh hL;refine(wY (n:=3)).1 ?_;refine xS Tryz.func26 rfl trivial ?_ rfl;simp only[Tryz.ntmps26,yx,ze,yQ,Nat.reduceAdd,Nat.reduceSub,yf,yh,yy,ym,yP,yc];refine wpIn_wide.2 ?_
 go_wp2_with fail
 refine(kh.o _).mono ?_;rintro e w2 ⟨rfl,rfl⟩
 go_wp2_with fail
 rw[<-ag];replace ag:=zh ag;clear u0 u1 u2 u9 kh;refine(wpIn_wide (n:=3)).1 ?_
 refine wpIn_rangeFunc_ownH (F:=Fence.wide) rfl (by decide) (gf:=70) (lb:=#[.pointer (some ⟨w.heap.size+1+1,0,none⟩),.pointer (some ⟨w.heap.size+1+1+1,0,none⟩)]) rfl trivial (enters_of Tryz.func70 (by kernel_rfl) rfl)
  (F1 Fence.wide 2 trivial rfl (by decide) s Ap Ac Av cp cc cv (w.heap.size+1+1) (w.heap.size+1+1+1) w.heap.size (p:Int) w1 aU.o (by omega) (by omega) aV.o (by omega) aR.o aO.o) (fun h k=>Kq.trans h k) (Wp (by omega) (by omega)) (zI _ _) (fun _=>rfl)
  (fun pre W=>(Bk W (w.heap.size+1) 34 [.bool (rq (E9 (Ae s.cap) val pre)).1,.string (rq (E9 (Ae s.cap) val pre)).2.1,.string (rq (E9 (Ae s.cap) val pre)).2.2]/\Bk W w.heap.size 34 [.bool false,.string ⟨#[]⟩,.string ⟨#[]⟩]/\Bk W (w.heap.size+1+1+1) 3 [.int .i64 (p:Int)])/\Below w.heap.size w W)
  (fun _ _ _=>False)
  (OwnFrom.and (fun _ _ _ _ hs hg hr=>⟨GB hs.1 hg hr,GB hs.2.1 hg hr,GB hs.2.2 hg hr⟩) (ownFrom_below (zA _) (by omega)))
  (fun _ _ _ _ _ hs _ _=>hs)
  ⟨⟨aT.o,aP.o,aG.o⟩,aE.o⟩
  (fun x a' W=>∃Bx,w.heap.size+1+1+1<Bx/\Bk W Bx 55 [.int .i64 (s.cap[x.1]'x.2).1,.int .i64 (s.cap[x.1]'x.2).2.1,.bool (s.cap[x.1]'x.2).2.2.1,.string (s.cap[x.1]'x.2).2.2.2.1,.string (s.cap[x.1]'x.2).2.2.2.2]/\a'={ tmps:=#[.int .i64 (p:Int),.pointer (some ⟨sb,0,none⟩),.pointer (some ⟨qb,0,none⟩),undef,.pointer (some ⟨w.heap.size,0,none⟩),.pointer (some ⟨w.heap.size+1,0,none⟩),.pointer (some ⟨Bx,0,none⟩),undef,undef,.agg #[.bool false,.string ⟨#[48]⟩,.string ⟨#[49]⟩],.agg #[.slice Ap s.ps.length cp,.slice Ac s.cap.length cc,.slice Av s.vot.length cv],.int .i64 (p:Int),.func (.func 70) #[] #[.pointer (some ⟨w.heap.size+1+1,0,none⟩),.pointer (some ⟨w.heap.size+1+1+1,0,none⟩)],lkV (s.cap[x.1]'x.2),undef,undef,undef,undef,undef,undef,undef,undef,undef,undef,undef,undef,undef,undef,undef,undef,undef,undef,undef],defers:=[] })
  (fun x a' _ X Y row hs hg hr=>by obtain⟨Bx,h1,h2,h3⟩:=hs;exact⟨Bx,h1,GB h2 hg hr,h3⟩)
  ?assign ?body ?done ?stop
 case assign=>
  rintro l pre x W K ⟨⟨bT,bR,bP⟩,hB⟩ hK;have ai:=hB.size;have hP:=bP.lt;unfold lkV
  gi_wp2
  exact hK _ _ ((KeepsOthers.alloc _ _).from _) ((Kq.refl W).alloc ai hP _) ⟨⟨bT.alloc _,bR.alloc _,bP.alloc _⟩,hB.alloc ai _⟩ ⟨W.heap.size,by omega,Bk.new W _ _,rfl⟩
 case body=>
  rintro l pre x a' W hl ⟨r,hr⟩ ⟨⟨bT,bR,bP⟩,hB⟩ ⟨Bx,a5,bX,rfl⟩ a8;obtain⟨i,hi⟩:=x;obtain⟨co,ho,Ai,ay,au,a7,aW⟩:=Du aA (k:=i) hi;dsimp only at bX ⊢;have aJ:(Ae s.cap).length=s.cap.length:=by unfold Ae;rw[zU]
  have av:=I0 hL.o (k:=i) (by rw[aJ];exact hi);rw[au]at av;dsimp only at av;have af:DL (Ae s.cap) val i=Ai*val ho:=by unfold DL;rw[yX,zY (by rw[aJ];exact hi),au];rfl
  have ao:=GC (Ae s.cap) val pre (⟨i,hi⟩:EI s.cap.length);dsimp only at ao;rw[af]at ao;have aC:=az.o i hi;rw[af]at aC;have aK:=aB.o pre (by omega);rw[ay]at bX ⊢;dsimp only at bX;have ai:=hB.size;have aH:=bP.lt;have bQ:=hQ.o.below hB;obtain⟨vb,vo,rfl,aw,aL⟩:=(hv.o.below hB (zA _)) (by rw[Ag];omega);obtain⟨v0,v1,v2⟩:=aL ho (by rw[Ag];omega);rw[BE]at v0 v1 v2;clear aL;have q4:(0:Int)<=(ho:Int):=by omega
  have q5:(ho:Int)<(s.ps.length:Int):=by omega
  have al:Hid (∀W2,Below W.heap.size W W2->Env W2):=fun W2 h=>hE.o.below (hB.trans (h.mono ai));have km:Hid (∀W2,Env W2->Calls Tryz.prog 28 #[.agg #[.bool (rq (Ai)).1,.string (rq (Ai)).2.1,.string (rq (Ai)).2.2],.agg #[.bool (rq (val ho)).1,.string (rq (val ho)).2.1,.string (rq (val ho)).2.2]] W2 fun e w'=>e=.returned (.tuple #[.agg #[.bool (rq (Ai*val ho)).1,.string (rq (Ai*val ho)).2.1,.string (rq (Ai*val ho)).2.2],.int .i64 0])/\Below W2.heap.size W2 w'):=fun W2 hW=>Fj Ai (val ho) av (aD.o ho aW) W2 hW;have ka:Hid (∀W2,Env W2->Calls Tryz.prog 29 #[.agg #[.bool (rq (E9 (Ae s.cap) val pre)).1,.string (rq (E9 (Ae s.cap) val pre)).2.1,.string (rq (E9 (Ae s.cap) val pre)).2.2],.agg #[.bool (rq (Ai*val ho)).1,.string (rq (Ai*val ho)).2.1,.string (rq (Ai*val ho)).2.2]] W2 fun e w'=>e=.returned (.tuple #[.agg #[.bool (rq (E9 (Ae s.cap) val (pre++[⟨i,hi⟩]))).1,.string (rq (E9 (Ae s.cap) val (pre++[⟨i,hi⟩]))).2.1,.string (rq (E9 (Ae s.cap) val (pre++[⟨i,hi⟩]))).2.2],.int .i64 0])/\Below W2.heap.size W2 w'):=fun W2 hW=>by rw[ao];exact Jc _ _ aK aC W2 hW
  have HS:Hid (∀W2,Below W.heap.size W W2->(fun W=>W.cell? ⟨Bx,1,none⟩=some (.int .i64 (ho:Int))/\W.cell? ⟨Bx,2,none⟩=some (.bool (rq (Ai)).1)/\W.cell? ⟨Bx,3,none⟩=some (.string (rq (Ai)).2.1)/\W.cell? ⟨Bx,4,none⟩=some (.string (rq (Ai)).2.2)/\W.cell? ⟨qb,1,none⟩=some (.slice (some ⟨vb,vo,none⟩) s.ps.length cw)/\W.cell? ⟨vb,vo+ho*3,none⟩=some (.bool (rq (val ho)).1)/\W.cell? ⟨vb,vo+ho*3+1,none⟩=some (.string (rq (val ho)).2.1)/\W.cell? ⟨vb,vo+ho*3+2,none⟩=some (.string (rq (val ho)).2.2)) W2):=fun W2 h=>⟨(bX.below h).c1,(bX.below h).c2,(bX.below h).c3,(bX.below h).c4,(bQ.below h).c1,(h.cell (p:=⟨vb,vo+ho*3,none⟩) aw).trans v0,(h.cell (p:=⟨vb,vo+ho*3+1,none⟩) aw).trans v1,(h.cell (p:=⟨vb,vo+ho*3+2,none⟩) aw).trans v2⟩;have hD:Hid (Below W.heap.size W W.drew):=(zI _ _).drew;have aa:Hid (W.heap.size<=W.heap.size):=zA _;replace hB:=zh hB;replace bT:=zh bT;replace bR:=zh bR;replace bP:=zh bP;replace af:=zh af;replace ao:=zh ao;replace au:=zh au;replace ay:=zh ay;replace hr:=zh hr;clear bX bQ v0 v1 v2 aw av aC aK
  gi_wp2
  refine Gb (S:=fun W=>W.cell? ⟨Bx,1,none⟩=some (.int .i64 (ho:Int))/\W.cell? ⟨Bx,2,none⟩=some (.bool (rq (Ai)).1)/\W.cell? ⟨Bx,3,none⟩=some (.string (rq (Ai)).2.1)/\W.cell? ⟨Bx,4,none⟩=some (.string (rq (Ai)).2.2)/\W.cell? ⟨qb,1,none⟩=some (.slice (some ⟨vb,vo,none⟩) s.ps.length cw)/\W.cell? ⟨vb,vo+ho*3,none⟩=some (.bool (rq (val ho)).1)/\W.cell? ⟨vb,vo+ho*3+1,none⟩=some (.string (rq (val ho)).2.1)/\W.cell? ⟨vb,vo+ho*3+2,none⟩=some (.string (rq (val ho)).2.2)) (by kernel_rfl) (by kernel_rfl) (fun⟨_,_,h⟩=>h) (HS.o _ hD.o) (fun aI=>?_);refine B7 (i:=0) (by kernel_rfl) (by kernel_rfl) (by kernel_rfl) (by rfl) (by assumption) (fun oi ho=>?_);simp only[zz,zm,Option.some.injEq]at ho;subst ho;refine⟨?_,fun _ _ _ h=>h,.inl ⟨by rfl,fun W d=>?_⟩,?_⟩;rotate_left
  . (obtain⟨q1,q2,q3,q4,q5,q6,q7,q8⟩:=d;go_simp<;>with_reducible rfl)
  simp only[Act.put,zB,zE,zC];refine B7 (i:=1) (by kernel_rfl) (by kernel_rfl) (by kernel_rfl) (by rfl) (by assumption) (fun oi ho=>?_);simp only[zz,zt,zm,Option.some.injEq]at ho;subst ho;refine⟨?_,fun _ _ _ h=>h,.inl ⟨by rfl,fun W d=>?_⟩,?_⟩;rotate_left
  . (obtain⟨q1,q2,q3,q4,q5,q6,q7,q8⟩:=d;go_simp<;>with_reducible rfl)
  simp only[Act.put,zB,zE,zC];refine B7 (i:=2) (by kernel_rfl) (by kernel_rfl) (by kernel_rfl) (by rfl) (by assumption) (fun oi ho=>?_);simp only[zz,zt,zm,Option.some.injEq]at ho;subst ho;refine⟨?_,fun _ _ _ h=>h,.inl ⟨by rfl,fun W d=>?_⟩,?_⟩;rotate_left
  . (obtain⟨q1,q2,q3,q4,q5,q6,q7,q8⟩:=d;go_simp<;>with_reducible rfl)
  simp only[Act.put,zB,zE,zC];refine B7 (i:=3) (by kernel_rfl) (by kernel_rfl) (by kernel_rfl) (by rfl) (by assumption) (fun oi ho=>?_);simp only[zz,zt,zm,Option.some.injEq]at ho;subst ho;refine⟨?_,fun _ _ _ h=>h,.inl ⟨by rfl,fun W d=>?_⟩,?_⟩;rotate_left
  . (obtain⟨q1,q2,q3,q4,q5,q6,q7,q8⟩:=d;go_simp<;>with_reducible rfl)
  simp only[Act.put,zB,zE,zC];refine B7 (i:=4) (by kernel_rfl) (by kernel_rfl) (by kernel_rfl) (by rfl) (by assumption) (fun oi ho=>?_);simp only[zz,zt,zm,Option.some.injEq]at ho;subst ho;refine⟨?_,fun _ _ _ h=>h,.inl ⟨by rfl,fun W d=>?_⟩,?_⟩;rotate_left
  . (obtain⟨q1,q2,q3,q4,q5,q6,q7,q8⟩:=d;go_simp<;>with_reducible rfl)
  simp only[Act.put,zB,zE,zC];refine B7 (i:=5) (by kernel_rfl) (by kernel_rfl) (by kernel_rfl) (by rfl) (by assumption) (fun oi ho=>?_);simp only[zz,zt,zm,Option.some.injEq]at ho;subst ho;refine⟨?_,fun _ _ _ h=>h,.inl ⟨by rfl,fun W d=>?_⟩,?_⟩;rotate_left
  . (obtain⟨q1,q2,q3,q4,q5,q6,q7,q8⟩:=d;go_simp<;>with_reducible rfl)
  simp only[Act.put,zB,zE,zC];refine B7 (i:=6) (by kernel_rfl) (by kernel_rfl) (by kernel_rfl) (by rfl) (by assumption) (fun oi ho=>?_);simp only[zz,zt,zm,Option.some.injEq]at ho;subst ho;refine⟨?_,fun _ _ _ h=>h,.inl ⟨by rfl,fun W d=>?_⟩,?_⟩;rotate_left
  . (obtain⟨q1,q2,q3,q4,q5,q6,q7,q8⟩:=d;go_simp<;>with_reducible rfl)
  simp only[Act.put,zB,zE,zC];refine B7 (i:=7) (by kernel_rfl) (by kernel_rfl) (by kernel_rfl) (by rfl) (by assumption) (fun oi ho=>?_);simp only[zz,zt,zm,Option.some.injEq]at ho;subst ho;refine⟨?_,fun _ _ _ h=>h,.inl ⟨by rfl,fun W d=>?_⟩,?_⟩;rotate_left
  . (obtain⟨q1,q2,q3,q4,q5,q6,q7,q8⟩:=d;go_simp<;>with_reducible rfl)
  simp only[Act.put,zB,zE,zC];refine zT (rs:=[8,12]) (by kernel_rfl) (by simp) ?_;refine zL (o:=_) rfl (fun K hK=>?_) (zL (o:=_) rfl (fun K hK=>?_) zQ)
  .go_simp;refine(km.o _ (al.o _ hD.o)).mono ?_;rintro e w8 ⟨rfl,hb⟩;have h8:=zh (hD.o.trans (hb.mono hD.o.size));clear hb km;refine hK.o _ _ (HS.o _ h8.o) (fun aq=>?_)
   (try simp only[Act.put,zB,zE,zC])
   clear aI;refine B7 (i:=9) (by kernel_rfl) (by kernel_rfl) (by kernel_rfl) (by rfl) (by assumption) (fun oi ho=>?_);simp only[zz,zt,zm,Option.some.injEq]at ho;subst ho;refine⟨?_,fun _ _ _ h=>h,.inl ⟨by rfl,fun W d=>?_⟩,?_⟩;rotate_left
   . (obtain⟨q1,q2,q3,q4,q5,q6,q7,q8⟩:=d;go_simp<;>with_reducible rfl)
   simp only[Act.put,zB,zE,zC];refine B7 (i:=10) (by kernel_rfl) (by kernel_rfl) (by kernel_rfl) (by rfl) (by assumption) (fun oi ho=>?_);simp only[zz,zt,zm,Option.some.injEq]at ho;subst ho;refine⟨?_,fun _ _ _ h=>h,.inl ⟨by rfl,fun W d=>?_⟩,?_⟩;rotate_left
   . (obtain⟨q1,q2,q3,q4,q5,q6,q7,q8⟩:=d;go_simp<;>with_reducible rfl)
   simp only[Act.put,zB,zE,zC];refine B7 (i:=11) (by kernel_rfl) (by kernel_rfl) (by kernel_rfl) (by rfl) (by assumption) (fun oi ho=>?_);simp only[zz,zt,zm,Option.some.injEq]at ho;subst ho;refine⟨?_,fun _ _ _ h=>h,.inl ⟨by rfl,fun W d=>?_⟩,?_⟩;rotate_left
   . (obtain⟨q1,q2,q3,q4,q5,q6,q7,q8⟩:=d;go_simp<;>with_reducible rfl)
   simp only[Act.put,zB,zE,zC];refine zT (rs:=[12]) (by kernel_rfl) (by simp) ?_;refine zL (o:=_) rfl (fun K hK=>?_) zQ;go_simp;refine hK.o _ _ (by first|(with_reducible exact HS.o _ (h8.o.alloc h8.o.size _))|(with_reducible exact HS.o _ (((h8.o.setCell aa.o _).setCell aa.o _).setCell aa.o _))) (fun _=>?_)
   (try simp only[Act.put,zB,zE,zC])
   refine zT (rs:=[13]) (by kernel_rfl) (by simp) ?_;refine zL (o:=_) rfl (fun K hK=>?_) zQ;go_simp;refine hK.o _ _ (by first|(with_reducible exact HS.o _ (h8.o.alloc h8.o.size _))|(with_reducible exact HS.o _ (((h8.o.setCell aa.o _).setCell aa.o _).setCell aa.o _))) (fun _=>?_)
   (try simp only[Act.put,zB,zE,zC])
   refine B7 (i:=14) (by kernel_rfl) (by kernel_rfl) (by kernel_rfl) (by rfl) (by assumption) (fun oi ho=>?_);simp only[zz,zt,zm,Option.some.injEq]at ho;subst ho;refine⟨?_,fun _ _ _ h=>h,.inl ⟨by rfl,fun W d=>?_⟩,?_⟩;rotate_left
   . (obtain⟨q1,q2,q3,q4,q5,q6,q7,q8⟩:=d;go_simp<;>with_reducible rfl)
   simp only[Act.put,zB,zE,zC];refine xZ (by kernel_rfl) ?_ _;obtain⟨w9,ae⟩:∃X,X=(w8.alloc (.cells #[.bool (rq (Ai*val ho)).1,.string (rq (Ai*val ho)).2.1,.string (rq (Ai*val ho)).2.2] 34)):=⟨_,rfl⟩;obtain⟨xb,ah⟩:∃x,x=w8.heap.size:=⟨_,rfl⟩;have h9:Hid (Below W.heap.size W w9):=by rw[ae];exact h8.o.alloc h8.o.size _
   have hP:Hid (Bk w9 xb 34 [.bool (rq (Ai*val ho)).1,.string (rq (Ai*val ho)).2.1,.string (rq (Ai*val ho)).2.2]):=by rw[ae,ah];exact Bk.new _ _ _
   rw[<-ae,<-ah];replace ae:=zh ae;replace ah:=zh ah;have bT9:=zh (bT.o.below h9.o);have ax:=zh (al.o _ h9.o);have x0:=bT9.o.c0;have x1:=bT9.o.c1;have x2:=bT9.o.c2;have x9:=bT9.o.lt;have y0:=hP.o.c0;have y1:=hP.o.c1;have y2:=hP.o.c2;have y9:=hP.o.lt;have k9:=zh (ka.o _ ax.o);clear aq HS hD al ka
   gi_wp2_with (refine⟨trivial,?_⟩;refine(yY l (callsIn_wide.2 k9.o)).mono ?_;rintro e aY ⟨rfl,hb⟩;have bT10:=zh (bT9.o.below hb);have ad:=zh (h9.o.trans (hb.mono h9.o.size));clear hb bT9 hP k9 x0 x1 x2 x9 y0 y1 y2 y9;have x0:=bT10.o.c0;have x1:=bT10.o.c1;have x2:=bT10.o.c2;have x9:=bT10.o.lt;have aZ:=bT10.o.frozen 0;have a0:=bT10.o.frozen 1;have a1:=bT10.o.frozen 2)
   have am:=hB.o.trans (ad.o.mono ai);have ak:w.heap.size+1+1+1≠w.heap.size+1:=by omega
   refine⟨((GQ ad.o).from _).trans (((yL _ _ _).trans (yL _ _ _)).trans (yL _ _ _) |>.from _),?_,⟨?_,?_,?_⟩,?_⟩
   .exact((((Kq.refl W).below ad.o ai aH).set (a:=⟨w.heap.size+1,0,none⟩) (by simp) (by show w.heap.size+1+1+1≠w.heap.size+1;omega) _).set (a:=⟨w.heap.size+1,1,none⟩) (by simp) (by show w.heap.size+1+1+1≠w.heap.size+1;omega) _).set (a:=⟨w.heap.size+1,2,none⟩) (by simp) (by show w.heap.size+1+1+1≠w.heap.size+1;omega) _
   .exact Bk.set (Bk.set (Bk.set bT10.o 0 _) 1 _) 2 _
   .exact(((bR.o.below ad.o).far (by simp) _).far (by simp) _).far (by simp) _
   .exact(((bP.o.below ad.o).far ak _).far ak _).far ak _
   exact((am.setCell (p:=⟨w.heap.size+1,0,none⟩) (by simp) _).setCell (p:=⟨w.heap.size+1,1,none⟩) (by simp) _).setCell (p:=⟨w.heap.size+1,2,none⟩) (by simp) _
  .go_simp;have an:Hid (Below W.heap.size W (W.alloc (.cells #[.bool false,.string ⟨#[]⟩,.string ⟨#[]⟩] 34)).drew):=((zI _ W).alloc (zA _) _).drew;have hZ:Hid (Bk (W.alloc (.cells #[.bool false,.string ⟨#[]⟩,.string ⟨#[]⟩] 34)).drew W.heap.size 34 [.bool false,.string ⟨#[]⟩,.string ⟨#[]⟩]):=(show Bk (W.alloc (.cells #[.bool false,.string ⟨#[]⟩,.string ⟨#[]⟩] 34)) W.heap.size 34 [.bool false,.string ⟨#[]⟩,.string ⟨#[]⟩] from Bk.new _ _ _);refine hK.o _ _ (HS.o _ an.o) (fun aS=>?_)
   (try simp only[Act.put,zB,zE,zC])
   clear aI;refine zT (rs:=[8]) (by kernel_rfl) (by simp) ?_;refine zL (o:=_) rfl (fun K hK=>?_) zQ;go_simp;refine(km.o _ (al.o _ an.o)).mono ?_;rintro e w8 ⟨rfl,hb⟩;have h8:=zh (an.o.trans (hb.mono an.o.size));have aj:=zh (hZ.o.below hb);clear hb km hZ an;have y0:=aj.o.c0;have y1:=aj.o.c1;have y2:=aj.o.c2;have y9:=aj.o.lt;have a2:=aj.o.frozen 0;have a3:=aj.o.frozen 1;have a4:=aj.o.frozen 2;refine hK.o _ _ (HS.o _ h8.o) (fun aq=>?_)
   (try simp only[Act.put,zB,zE,zC])
   clear aS;refine B7 (i:=9) (by kernel_rfl) (by kernel_rfl) (by kernel_rfl) (by rfl) (by assumption) (fun oi ho=>?_);simp only[zz,zt,zm,Option.some.injEq]at ho;subst ho;refine⟨?_,fun _ _ _ h=>h,.inl ⟨by rfl,fun W d=>?_⟩,?_⟩;rotate_left
   . (obtain⟨q1,q2,q3,q4,q5,q6,q7,q8⟩:=d;go_simp<;>with_reducible rfl)
   simp only[Act.put,zB,zE,zC];refine B7 (i:=10) (by kernel_rfl) (by kernel_rfl) (by kernel_rfl) (by rfl) (by assumption) (fun oi ho=>?_);simp only[zz,zt,zm,Option.some.injEq]at ho;subst ho;refine⟨?_,fun _ _ _ h=>h,.inl ⟨by rfl,fun W d=>?_⟩,?_⟩;rotate_left
   . (obtain⟨q1,q2,q3,q4,q5,q6,q7,q8⟩:=d;go_simp<;>with_reducible rfl)
   simp only[Act.put,zB,zE,zC];refine B7 (i:=11) (by kernel_rfl) (by kernel_rfl) (by kernel_rfl) (by rfl) (by assumption) (fun oi ho=>?_);simp only[zz,zt,zm,Option.some.injEq]at ho;subst ho;refine⟨?_,fun _ _ _ h=>h,.inl ⟨by rfl,fun W d=>?_⟩,?_⟩;rotate_left
   . (obtain⟨q1,q2,q3,q4,q5,q6,q7,q8⟩:=d;go_simp<;>with_reducible rfl)
   simp only[Act.put,zB,zE,zC];refine zT (rs:=[13]) (by kernel_rfl) (by simp) ?_;refine zL (o:=_) rfl (fun K hK=>?_) zQ;go_simp;refine hK.o _ _ (by first|(with_reducible exact HS.o _ (h8.o.alloc h8.o.size _))|(with_reducible exact HS.o _ (((h8.o.setCell aa.o _).setCell aa.o _).setCell aa.o _))) (fun _=>?_)
   (try simp only[Act.put,zB,zE,zC])
   refine B7 (i:=14) (by kernel_rfl) (by kernel_rfl) (by kernel_rfl) (by rfl) (by assumption) (fun oi ho=>?_);simp only[zz,zt,zm,Option.some.injEq]at ho;subst ho;refine⟨?_,fun _ _ _ h=>h,.inl ⟨by rfl,fun W d=>?_⟩,?_⟩;rotate_left
   . (obtain⟨q1,q2,q3,q4,q5,q6,q7,q8⟩:=d;go_simp<;>with_reducible rfl)
   simp only[Act.put,zB,zE,zC];refine xZ (by kernel_rfl) ?_ _;clear y0 y1 y2 y9 a2 a3 a4;have aq:=0;obtain⟨w9,ae⟩:∃X,X=((w8.setCell ⟨W.heap.size,0,none⟩ (.bool (rq (Ai*val ho)).1)).setCell ⟨W.heap.size,1,none⟩ (.string (rq (Ai*val ho)).2.1)).setCell ⟨W.heap.size,2,none⟩ (.string (rq (Ai*val ho)).2.2):=⟨_,rfl⟩;obtain⟨xb,ah⟩:∃x,x=W.heap.size:=⟨_,rfl⟩;have h9:Hid (Below W.heap.size W w9):=by rw[ae];exact((h8.o.setCell aa.o _).setCell aa.o _).setCell aa.o _
   have hP:Hid (Bk w9 xb 34 [.bool (rq (Ai*val ho)).1,.string (rq (Ai*val ho)).2.1,.string (rq (Ai*val ho)).2.2]):=by rw[ae,ah];exact((aj.o.set 0 _).set 1 _).set 2 _
   rw[<-ae,<-ah];replace ae:=zh ae;replace ah:=zh ah;have bT9:=zh (bT.o.below h9.o);have ax:=zh (al.o _ h9.o);have x0:=bT9.o.c0;have x1:=bT9.o.c1;have x2:=bT9.o.c2;have x9:=bT9.o.lt;have y0:=hP.o.c0;have y1:=hP.o.c1;have y2:=hP.o.c2;have y9:=hP.o.lt;have k9:=zh (ka.o _ ax.o);clear aq HS hD al ka
   gi_wp2_with (refine⟨trivial,?_⟩;refine(yY l (callsIn_wide.2 k9.o)).mono ?_;rintro e aY ⟨rfl,hb⟩;have bT10:=zh (bT9.o.below hb);have ad:=zh (h9.o.trans (hb.mono h9.o.size));clear hb bT9 hP k9 x0 x1 x2 x9 y0 y1 y2 y9;have x0:=bT10.o.c0;have x1:=bT10.o.c1;have x2:=bT10.o.c2;have x9:=bT10.o.lt;have aZ:=bT10.o.frozen 0;have a0:=bT10.o.frozen 1;have a1:=bT10.o.frozen 2)
   have am:=hB.o.trans (ad.o.mono ai);have ak:w.heap.size+1+1+1≠w.heap.size+1:=by omega
   refine⟨((GQ ad.o).from _).trans (((yL _ _ _).trans (yL _ _ _)).trans (yL _ _ _) |>.from _),?_,⟨?_,?_,?_⟩,?_⟩
   .exact((((Kq.refl W).below ad.o ai aH).set (a:=⟨w.heap.size+1,0,none⟩) (by simp) (by show w.heap.size+1+1+1≠w.heap.size+1;omega) _).set (a:=⟨w.heap.size+1,1,none⟩) (by simp) (by show w.heap.size+1+1+1≠w.heap.size+1;omega) _).set (a:=⟨w.heap.size+1,2,none⟩) (by simp) (by show w.heap.size+1+1+1≠w.heap.size+1;omega) _
   .exact Bk.set (Bk.set (Bk.set bT10.o 0 _) 1 _) 2 _
   .exact(((bR.o.below ad.o).far (by simp) _).far (by simp) _).far (by simp) _
   .exact(((bP.o.below ad.o).far ak _).far ak _).far ak _
   .exact((am.setCell (p:=⟨w.heap.size+1,0,none⟩) (by simp) _).setCell (p:=⟨w.heap.size+1,1,none⟩) (by simp) _).setCell (p:=⟨w.heap.size+1,2,none⟩) (by simp) _
 case done=>
  rintro D ys W hD rfl ⟨⟨bT,bR,_⟩,hB⟩ hK;rw[GD aA val p _ (zA _),yK (by unfold Ae;rw[zU];exact zA _)]at bT;have x0:=bT.c0;have x1:=bT.c1;have x2:=bT.c2;have x9:=bT.lt;have r0:=bR.c0;have r1:=bR.c1;have r2:=bR.c2;have r9:=bR.lt;have ba:=bR.frozen 0;have bb:=bR.frozen 1;have bd:=bR.frozen 2;replace hB:=zh hB;replace hK:=zh hK;obtain⟨W2,ar⟩:∃X,X=((W.setCell ⟨w.heap.size,0,none⟩ (.bool (rq (An p val (Ae s.cap))).1)).setCell ⟨w.heap.size,1,none⟩ (.string (rq (An p val (Ae s.cap))).2.1)).setCell ⟨w.heap.size,2,none⟩ (.string (rq (An p val (Ae s.cap))).2.2):=⟨_,rfl⟩;have aN:Hid (Below w.heap.size w W2):=by rw[ar];exact((hB.o.setCell (p:=⟨w.heap.size,0,none⟩) (zA _) _).setCell (p:=⟨w.heap.size,1,none⟩) (zA _) _).setCell (p:=⟨w.heap.size,2,none⟩) (zA _) _
  have aQ:Hid (Bk W2 w.heap.size 34 [.bool (rq (An p val (Ae s.cap))).1,.string (rq (An p val (Ae s.cap))).2.1,.string (rq (An p val (Ae s.cap))).2.2]):=by rw[ar];exact Bk.set (Bk.set (Bk.set bR 0 _) 1 _) 2 _
  have aF:Hid (W2.heap[D]? = some (.deferred (some []))):=by
   rw[ar];exact(((yL _ _ _).trans (yL _ _ _)).trans (yL _ _ _)).same D _ hK.o rfl
  go_wp2
  (try rw[<-ar])
  refine⟨by simp,.inl ⟨_,_,rfl,wH aF.o,?_⟩⟩;have aX:w.heap.size≠D:=by omega
  have bR3:Bk (W2.putObj D (.deferred none)) w.heap.size 34 [.bool (rq (An p val (Ae s.cap))).1,.string (rq (An p val (Ae s.cap))).2.1,.string (rq (An p val (Ae s.cap))).2.2]:=aQ.o.grown (xm W2 D _) (fun e=>by cases e;exact aX rfl);have s0:=bR3.c0;have s1:=bR3.c1;have s2:=bR3.c2;refine⟨.agg #[.bool (rq (An p val (Ae s.cap))).1,.string (rq (An p val (Ae s.cap))).2.1,.string (rq (An p val (Ae s.cap))).2.2],?_,rfl,aN.o.trans (belowK_b (w:=w) (zA _) W2 D _ _ (by omega) aF.o rfl rfl)⟩;simp[results,Tryz.results26,go_sem,s0,s1,s2]
 case stop=>
  rintro D c pre W _ _ h _;exact h.elim
end Bd
end
section
namespace Bd
open Nt Ci Sh
section
variable {n:Nat} {L:List Lp} {F:List Nat}
def Abv(n:Nat)(L:List Lp)(F:List Nat)(v:Nat->Rat):Prop:=∀p,p<n->0<=v p/\(p∈F->1<=v p)/\(p∉F->An p v L<=v p)
def UV(L:List Lp)(F:List Nat)(v:Nat->Rat)(r:Nat->Int)(p:Nat):Prop :=
 (v p=0->r p=-1)/\(v p≠0->p∈F->r p=0/\v p<=1)/\(v p≠0->p∉F->1<=r p/\v p<=An p v L/\∃x,x∈L/\x.1=p/\0<=r x.2.1/\r x.2.1<r p/\v x.2.1≠0)
def Blw(n:Nat)(L:List Lp)(F:List Nat)(v:Nat->Rat)(r:Nat->Int):Prop:=∀p,p<n->0<=v p/\UV L F v r p
theorem Blw.le1{v:Nat->Rat}{r:Nat->Int}(h:Blw n L F v r):∀p,p<n->p∈F->v p<=1:=fun p hp hF=>by
 by_cases c:v p=0
 .rw[c];decide
 exact((h p hp).2.2.1 c hF).2
theorem Abv.join(hL:Caps n L){v w u:Nat->Rat}(hv:Abv n L F v)(hw:Abv n L F w)(hu:∀p,p<n->u p=if v p<=w p then v p else w p):Abv n L F u:=by
 have d:∀p,p<n->u p<=v p/\u p<=w p:=fun p hp=>by rw[hu p hp];split<;>grind
 intro p hp;have h1:=hv p hp;have h2:=hw p hp;refine⟨by rw[hu p hp];split<;>grind,fun hF=>?_,fun hF=>?_⟩
 .have:=h1.2.1 hF;have:=h2.2.1 hF;rw[hu p hp];split<;>grind
 have a:=E7 (p:=p) (f:=u) (g:=v) hL.pos fun x hx _=>(d _ (hL.lt x hx).2).1;have b:=E7 (p:=p) (f:=u) (g:=w) hL.pos fun x hx _=>(d _ (hL.lt x hx).2).2;have:=h1.2.2 hF;have:=h2.2.2 hF;rw[hu p hp];split<;>grind
theorem Blw.join(hL:Caps n L){v w u:Nat->Rat}{r s t:Nat->Int}(hv:Blw n L F v r)(hw:Blw n L F w s)(hu:∀p,p<n->u p=if v p<=w p then w p else v p)
 (ht:∀p,p<n->t p=if r p<0\/(0<=s p/\s p<r p) then s p else r p):Blw n L F u t:=by
 have a:∀p,p<n->v p<=u p/\w p<=u p:=fun p hp=>by rw[hu p hp];split<;>grind
 have ag:∀p,p<n->((v p=0->r p=-1)/\(v p≠0->0<=r p))/\((w p=0->s p=-1)/\(w p≠0->0<=s p)):=fun p hp=>by
  obtain⟨_,a1,a2,a3⟩:=hv p hp;obtain⟨_,b1,b2,b3⟩:=hw p hp;refine⟨⟨a1,fun h=>?_⟩,b1,fun h=>?_⟩
  .by_cases c:p∈F
   .have:=(a2 h c).1;omega
   have:=(a3 h c).1;omega
  by_cases c:p∈F
  .have:=(b2 h c).1;omega
  have:=(b3 h c).1;omega
 have af:∀p,p<n->(v p≠0\/w p≠0)->u p≠0:=fun p hp h=>by
  have h1:=(hv p hp).1;have h2:=(hw p hp).1;have h3:=a p hp
  rcases h with h|h<;>grind
 intro p hp;obtain⟨v0,a1,a2,a3⟩:=hv p hp;obtain⟨w0,b1,b2,b3⟩:=hw p hp;obtain⟨k1,k2⟩:=ag p hp;have aa:=hu p hp;have ae:=ht p hp;refine⟨by have:=(a p hp).1;grind,fun hz=>?_,fun ad hF=>?_,fun ad hF=>?_⟩
 .have ai:v p=0:=by have:=(a p hp).1;grind
  have aj:w p=0:=by have:=(a p hp).2;grind
  rw[ae,a1 ai,b1 aj];rfl
 .refine ⟨?_,by rw[aa];split;(· by_cases c:w p=0;(· rw[c];decide);(· exact(b2 c hF).2));(· by_cases c:v p=0;(· rw[c];decide);(· exact(a2 c hF).2))⟩;rw[ae]
  by_cases c:v p=0
  .have h1:=a1 c;have h2:w p≠0:=fun d=>ad (by rw[aa,c,d];split<;>rfl);have h3:=(b2 h2 hF).1;rw[zG (by omega)];exact h3
  have h1:=(a2 c hF).1;rw[zF (by omega)];exact h1
 -- the rank of p,and the link that grounds it
 have key:∀(x:Lp),x∈L->(v x.2.1≠0\/w x.2.1≠0)->0<=t x.2.1/\(v x.2.1≠0->t x.2.1<=r x.2.1)/\(w x.2.1≠0->t x.2.1<=s x.2.1):=fun x hx h=>by
  obtain⟨j1,j2⟩:=ag x.2.1 (hL.lt x hx).2;rw[ht x.2.1 (hL.lt x hx).2]
  by_cases c1:v x.2.1=0
  .have e1:=j1.1 c1;have c2:w x.2.1≠0:=by rcases h with h|h;(· exact absurd c1 h);(· exact h)
   have e2:=j2.2 c2;rw[zG (by omega)];exact⟨e2,fun h=>absurd c1 h,fun _=>Int.le_refl _⟩
  have e1:=j1.2 c1
  by_cases c2:w x.2.1=0
  .have e2:=j2.1 c2;rw[zF (by omega)];exact⟨e1,fun _=>Int.le_refl _,fun h=>absurd c2 h⟩
  have e2:=j2.2 c2
  by_cases c3:s x.2.1<r x.2.1
  .rw[zG (by omega)];exact⟨e2,fun _=>by omega,fun _=>Int.le_refl _⟩
  rw[zF (by omega)];exact⟨e1,fun _=>Int.le_refl _,fun _=>by omega⟩
 have sv:=E7 (p:=p) (f:=v) (g:=u) hL.pos fun x hx _=>(a _ (hL.lt x hx).2).1;have sw:=E7 (p:=p) (f:=w) (g:=u) hL.pos fun x hx _=>(a _ (hL.lt x hx).2).2
 have ah:u p<=An p u L:=by
  have lz:0<=An p u L:=BH hL.pos fun x hx _=>by have:=(hv _ (hL.lt x hx).2).1;have:=(a _ (hL.lt x hx).2).1;grind
  rw[aa]
  split
  .by_cases c:w p=0
   .rw[c];exact lz
   have:=(b3 c hF).2.1;grind
  by_cases c:v p=0
  .rw[c];exact lz
  have:=(a3 c hF).2.1;grind
 have tp:(1<=t p)/\((t p=r p/\v p≠0)\/(t p=s p/\w p≠0)):=by
  rw[ae]
  by_cases c1:v p=0
  .have e1:=a1 c1;have c2:w p≠0:=fun d=>ad (by rw[aa,c1,d];split<;>rfl);have e2:=(b3 c2 hF).1;rw[zG (by omega)];exact⟨e2,.inr ⟨rfl,c2⟩⟩
  have e1:=(a3 c1 hF).1
  by_cases c3:0<=s p/\s p<r p
  .have c2:w p≠0:=fun d=>by have:=b1 d;omega
   have e2:=(b3 c2 hF).1;rw[zG (by omega)];exact⟨e2,.inr ⟨rfl,c2⟩⟩
  rw[zF (by omega)];exact⟨e1,.inl ⟨rfl,c1⟩⟩
 refine⟨tp.1,ah,?_⟩
 rcases tp.2 with⟨e,c⟩|⟨e,c⟩
 .obtain⟨_,_,x,x1,x2,x3,x4,x5⟩:=a3 c hF;obtain⟨q1,q2,_⟩:=key x x1 (.inl x5);have q3:=q2 x5;exact⟨x,x1,x2,q1,by omega,af _ (hL.lt x x1).2 (.inl x5)⟩
 obtain⟨_,_,x,x1,x2,x3,x4,x5⟩:=b3 c hF;obtain⟨q1,_,q2⟩:=key x x1 (.inr x5);have q3:=q2 x5;exact⟨x,x1,x2,q1,by omega,af _ (hL.lt x x1).2 (.inr x5)⟩
end
theorem isI_dvd{x:Rat}{D:Nat}(h:x.den∣D):IsI ((D:Rat)*x):=by
 obtain⟨k,rfl⟩:=h;have hq:=Rat.mkRat_self x;rw[vn]at hq
 have hd:(x.den:Rat)≠0:=by
  have:(0:Rat)<(x.den:Rat):=Rat.natCast_pos.2 x.den_pos;grind
 refine⟨k*x.num,?_⟩;rw[xP,Rat.intCast_mul,wW];rw[wQ]at hq;have hi:=xN _ hd;generalize (x.den:Rat)=D at *;generalize (x.num:Rat)=N at *;rw[<-hq];have e:D*(k:Rat)*(N*D⁻¹)=(k:Rat)*N*(D*D⁻¹):=by grind
 rw[e,hi];grind
structure Fits(M n:Nat)(v:Nat->Rat)(D:Nat):Prop where
 dp:0<D
 dm:D<M
 nn:∀p,p<n->0<=v p
 num:∀p,p<n->(v p).num.natAbs<M
 dvd:∀p,p<n->(v p).den∣D
theorem PG{x:Rat}{M:Nat}(_:0<=x)(h:x.num.natAbs<M):x<=(M:Rat):=by
 rw[vP];have e1:((M:Nat):Rat).num=M:=Rat.num_natCast M;have e2:((M:Nat):Rat).den=1:=Rat.den_natCast M;rw[e1,e2];have hd:=x.den_pos;have:(M:Int)*1<=(M:Int)*(x.den:Int):=Int.mul_le_mul_of_nonneg_left (by omega) (by omega);omega
theorem VB{x:Rat}{c d:Nat}(hd:0<d)(h0:0<=x)(h1:x<=(c:Rat))(hi:IsI ((d:Rat)*x)):x.num.natAbs<=c*d/\x.den<=d:=by
 obtain⟨z,hz⟩:=hi
 have hdr:(d:Rat)≠0:=by
  have:(0:Rat)<(d:Rat):=Rat.natCast_pos.2 hd;grind
 have e:x=mkRat z d:=by
  rw[vn,<-hz,wQ];have:=xN _ hdr;grind
 have a:x.den∣d:=by
  rw[e,Rat.den_mkRat,zF (by omega)];exact Nat.div_dvd_of_dvd (vK _ _)
 have h:=vN hd a;refine⟨?_,h⟩;have h2:=(vP _ _).1 h1;have e1:((c:Nat):Rat).num=c:=Rat.num_natCast c;have e2:((c:Nat):Rat).den=1:=Rat.den_natCast c;rw[e1,e2]at h2;have h3:=Rat.num_nonneg.2 h0
 have h4:x.num.natAbs<=c*x.den:=by
  have:((c*x.den:Nat):Int)=(c:Int)*(x.den:Int):=xC ..;omega
 exact zS h4 (yE _ h)
theorem Fits.sum{M n D:Nat}{L:List Lp}{v:Nat->Rat}(h:Fits M n v D)(hL:Caps n L)(p k:Nat):(An p v (L.take k)).num.natAbs<=M*(6000*M)/\(An p v (L.take k)).den<=6000*M:=by
 have hT:=hL.take k;have h0:=BH (p:=p) (f:=v) hT.pos fun x hx _=>h.nn _ (hT.lt x hx).2;have h1:An p v (L.take k)<=(M:Rat):=hT.le_of (Rat.natCast_nonneg) fun x hx _=>PG (h.nn _ (hT.lt x hx).2) (h.num _ (hT.lt x hx).2);have h2:=hT.int_sum (p:=p) (f:=v) (D:=(D:Rat)) fun x hx _=>isI_dvd (h.dvd _ (hT.lt x hx).2);have h3:IsI (((6000*D:Nat):Rat)*An p v (L.take k)):=by rw[xP];exact h2
 obtain⟨a,b⟩:=VB (wE (by omega) h.dp) h0 h1 h3;have hm:6000*D<=6000*M:=yE _ (xA h.dm);exact⟨zS a (yE _ hm),zS b hm⟩
end Bd
end
section
namespace Bd
open Nt Ci Sh
def AY(V:List Raw)(p:Nat):Rat:=if p<V.length then vq (V.getD p zraw) else 0
structure FitV(val:Nat->Rat)(D:Nat):Prop where
 nn:∀p,0<=val p
 dp:0<D
 dlt:D<10^65
 num:∀p,(val p).num.natAbs<10^65
 whole:∀p,IsI ((D:Rat)*val p)
theorem Sr{m d:Nat}(hm:0<m):m∣Bi m d/\d∣Bi m d:=by
 unfold Bi;refine⟨Nat.dvd_mul_right _ _,?_⟩;have hg:=vU d hm;obtain⟨a,ha⟩:=vK m d;obtain⟨b,hb⟩:=Nat.gcd_dvd_right m d;generalize Nat.gcd m d=g at *;have e1:d/g=b:=by rw[hb,Nat.mul_div_cancel_left _ hg]
 rw[e1];exact⟨a,by rw[ha,hb];rw[zr,zr,zn a b]⟩
theorem Lz:∀(l:List Raw)(m:Nat),0<m->m<10^65->E3 m l=true->(∀x,x∈l->DG x=true/\x.1=false/\x.2.1.size<=65/\x.2.2.size<=65)/\∃D,0<D/\D<10^65/\m∣D/\∀x,x∈l->(vq x).den∣D
 | [],m,hm,a,_=>⟨fun _ h=>(by cases h),m,hm,a,Nat.dvd_refl _,fun _ h=>(by cases h)⟩
 |x :: t,m,hm,a,h=>by
  rw[G3]at h;simp only[yI,yV,Bool.not_eq_true']at h;obtain⟨h1,h2,h3,h4,h5,h6⟩:=h;obtain⟨i1,D,d1,d2,d3,d4⟩:=Lz t (Bi m (vq x).den) (G4 hm (vq x).den_pos) ((Cu (by decide)).1 h5) h6;have hn:=Sr (d:=(vq x).den) hm;refine⟨fun y hy=>?_,D,d1,d2,Nat.dvd_trans hn.1 d3,fun y hy=>?_⟩
  .rcases List.mem_cons.1 hy with rfl|hy
   .exact⟨h1,h2,h3,h4⟩
   exact i1 y hy
  rcases List.mem_cons.1 hy with rfl|hy
  .exact Nat.dvd_trans hn.2 d3
  exact d4 y hy
theorem Kg{V:List Raw}{p:Nat}(h:p<V.length):AY V p=vq V[p]:=by
 unfold AY;rw[zG h,yX,zY h];rfl
theorem Em{V:List Raw}(h:Cl V=true):V=AO V.length (AY V)/\∃D,FitV (AY V) D:=by
 obtain⟨h1,D,d1,d2,_,d4⟩:=Lz V 1 (by decide) (Nat.one_lt_pow (by decide) (by decide)) h;have hx:∀p (hp:p<V.length),rq (AY V p)=V[p]:=fun p hp=>by rw[Kg hp];exact(ER (h1 _ (zN hp)).1).1
 refine⟨List.ext_getElem (Ag _ _).symm fun i hi h2=>?_,D,fun p=>?_,d1,d2,fun p=>?_,fun p=>?_⟩
 .rw[BE,hx i hi]
 .by_cases hp:p<V.length
  .have e:(rq (AY V p)).1=false:=by rw[hx p hp];exact(h1 _ (zN hp)).2.1
   have e2:¬(AY V p).num<0:=of_decide_eq_false e;exact Rat.num_nonneg.1 (by omega)
  rw[show AY V p=0 from zF hp];exact xD
 .by_cases hp:p<V.length
  .have e:(T (some (AY V p).num.natAbs))=V[p].2.1:=congrArg (·.2.1) (hx p hp);exact(Cu (by decide)).1 (by rw[e];exact(h1 _ (zN hp)).2.2.1)
  rw[show AY V p=0 from zF hp];exact xT (by decide)
 by_cases hp:p<V.length
 .rw[Kg hp];exact isI_dvd (d4 _ (zN hp))
 rw[show AY V p=0 from zF hp,v6];exact IsI.zero
theorem FitV.dg{val:Nat->Rat}{D:Nat}(h:FitV val D)(p:Nat):Dg 65 (val p) :=
 ⟨h.num p,zl (vN h.dp (Hu h.dp (h.whole p))) h.dlt⟩
theorem FitV.short{val:Nat->Rat}{D:Nat}(h:FitV val D)(p:Nat):ShortQ (val p):=(h.dg p).short (by decide)
theorem Un{q:Rat}(h:Fit 6000 q):Dg 4 q:=by
 obtain⟨h1,h2,d,d1,d2,d3⟩:=h;have hd:q.den<=6000:=zS (vN d1 (Hu d1 d3)) d2;have b:=(vP _ _).1 h2;have c:=(vP _ _).1 h1;have e3:(1:Rat).num=1:=rfl;have e4:(1:Rat).den=1:=rfl;have e5:(-1:Rat).num=-1:=rfl;have e6:(-1:Rat).den=1:=rfl;rw[e3,e4]at b;rw[e5,e6]at c;exact⟨by show q.num.natAbs<10^4;omega,by show q.den<10^4;omega⟩
theorem VC{val:Nat->Rat}{D:Nat}(h:FitV val D)(p:Nat):val p<=((10^65:Nat):Rat):=by
 rw[vP];have e3:((10^65:Nat):Rat).num=((10^65:Nat):Int):=rfl;have e4:((10^65:Nat):Rat).den=1:=rfl;rw[e3,e4];have h1:=h.num p;have h2:=(val p).den_pos;have h3:(val p).num<=((10^65:Nat):Int):=by omega
 have h4:((10^65:Nat):Int)*1<=((10^65:Nat):Int)*((val p).den:Int):=Int.mul_le_mul_of_nonneg_left (by omega) (by omega);omega
theorem Ss{q:Rat}{B d:Nat}(h0:0<=q)(hB:q<=(B:Rat))(hd:0<d)(hi:IsI ((d:Rat)*q))(h1:B*d<L1)(h2:d<L1):ShortQ q:=by
 have h3:=vN hd (Hu hd hi);have b:=(vP _ _).1 hB;have e3:((B:Nat):Rat).num=(B:Int):=rfl;have e4:((B:Nat):Rat).den=1:=rfl;rw[e3,e4]at b;have c:=Rat.num_nonneg.2 h0;have h4:B*q.den<=B*d:=yE _ h3;have h5:((B*q.den:Nat):Int)=(B:Int)*(q.den:Int):=by push_cast;rfl
 exact⟨by omega,by omega⟩
theorem Om:300*10^65*(6000*10^65)<L1:=by
 have e:L1=10^140:=by unfold L1;rw[DT]
 rw[e]
 have h:300*10^65*(6000*10^65)=1800000*10^130:=by
  rw[show (10:Nat)^130=10^65*10^65 by rw[<-xU]]
 rw[h,show (10:Nat)^140=10^10*10^130 by rw[<-xU]];exact Nat.mul_lt_mul_of_pos_right (by decide) (xT (by decide))
section
variable {s:SR} {val:Nat->Rat} {D:Nat}
theorem Kh(a:As s=true)(h:FitV val D){i:Nat}(hi:i<s.cap.length):0<=DL (Ae s.cap) val i/\DL (Ae s.cap) val i<=((10^65:Nat):Rat)/\IsI (((6000*D:Nat):Rat)*DL (Ae s.cap) val i)/\ShortQ (DL (Ae s.cap) val i):=by
 have hL:=Cq a;have d:(Ae s.cap).length=s.cap.length:=by unfold Ae;rw[zU]
 have hk:i<(Ae s.cap).length:=by omega
 have e:DL (Ae s.cap) val i=(Ae s.cap)[i].2.2*val (Ae s.cap)[i].2.1:=by
  unfold DL;rw[yX,zY hk];rfl
 rw[e];have hf:=Gi hL hk;have h0:=hL.pos _ (zN hk);have h2:=h.nn (Ae s.cap)[i].2.1;have h3:=VC h (Ae s.cap)[i].2.1;have hw:=(hL.whole _ (zN hk)).mul (h.whole (Ae s.cap)[i].2.1);generalize (Ae s.cap)[i].2.2=pt at *;have hd:=h.dg (Ae s.cap)[i].2.1;generalize val (Ae s.cap)[i].2.1=v at *;refine⟨xX (yw h0) h2,?_,?_,((Un hf).mul hd).short (by decide)⟩
 .have h5:=Rat.mul_le_mul_of_nonneg_right hf.2.1 h2;rw[wD]at h5;grind
 have e2:6000*pt*((D:Rat)*v)=((6000*D:Nat):Rat)*(pt*v):=by
  rw[xP,show ((6000:Nat):Rat)=6000 from rfl];grind
 rw[e2]at hw;exact hw
theorem On(d:As s=true)(h:FitV val D):∀(k:Nat)(pre:List (EI s.cap.length)),pre.length=k->0<=E9 (Ae s.cap) val pre/\E9 (Ae s.cap) val pre<=((k*10^65:Nat):Rat)/\IsI (((6000*D:Nat):Rat)*E9 (Ae s.cap) val pre)
 |0,pre,hl=>by
  rw[List.length_eq_zero_iff.1 hl];refine⟨xD,by rw[xu];exact xD,?_⟩
  show IsI (((6000*D:Nat):Rat)*0)
  rw[v6];exact IsI.zero
 |k + 1,pre,hl=>by
  have a:pre≠[]:=fun e=>by rw[e]at hl;cases hl
  have e:=wl a;obtain⟨a1,a2,a3⟩:=On d h k pre.dropLast (by rw[List.length_dropLast];omega);obtain⟨b1,b2,b3,_⟩:=Kh d h (pre.getLast a).2;rw[<-e,GC];generalize E9 (Ae s.cap) val pre.dropLast=x at *;generalize DL (Ae s.cap) val (pre.getLast a).1=y at *;refine⟨Rat.add_nonneg a1 b1,?_,?_⟩
  .rw[yF,Nat.one_mul,Rat.natCast_add];grind
  rw[Rat.mul_add];exact a3.add b3
theorem FN(a:As s=true)(d:s.cap.length<=300)(h:FitV val D)(pre:List (EI s.cap.length))(hp:pre.length<=s.cap.length):ShortQ (E9 (Ae s.cap) val pre):=by
 obtain⟨a1,a2,a3⟩:=On a h _ pre rfl;have hD:=h.dlt;have h1:pre.length*10^65<=300*10^65:=yG _ (by omega);have h2:6000*D<=6000*10^65:=yE _ (by omega);have h3:pre.length*10^65*(6000*D)<L1:=zl (xi h1 h2) Om;have h4:6000*D<L1:=zl (zS h2 (vj _ (wE (by decide) (xT (by decide))))) Om;exact Ss a1 a2 (wE (by decide) h.dp) a3 h3 h4
theorem L0(a:As s=true)(d:s.cap.length<=300)(h:FitV val D)(p:Nat):ShortQ (An p val (Ae s.cap)):=by
 have e:=GD a val p s.cap.length (zA _);rw[yK (by unfold Ae;rw[zU];exact zA _)]at e;rw[<-e];exact FN a d h _ (F0 _ _ _)
end
end Bd
end
end Go.Proofs.YtmfjbpcecpgchaaGreatDoor

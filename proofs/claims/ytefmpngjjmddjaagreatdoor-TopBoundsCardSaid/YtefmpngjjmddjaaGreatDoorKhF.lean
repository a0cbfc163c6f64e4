/- Parts of the proof. -/
import Derived.Test.YtefmpngjjmddjaaGreatDoorKhE
set_option maxHeartbeats 32000000
set_option maxRecDepth 1000000
open Go.Proofs.Tryz
namespace Go.Proofs.YtefmpngjjmddjaaGreatDoor
theorem tkhF{P:Program}{md:Region.Mode}{ops:Array Oper}{Q:Exit->Act->World->Prop}{S:World->Prop}{oi:Oper}{v:Value}{fuel:Nat}{listed:Array Bool}{a:Act}{w:World}(i:Nat)(hi:ops[i]?=some oi)(hS:S w)(hy:YieldsIf P ops S oi v a)(h:wpAnyH P md ops Q S fuel (listed.setIfInBounds i true) (a.put oi.dst v) w)(hs:Region.noSelect ops=true:=by kernel_rfl)(hf:Region.free md ops listed i=true:=by kernel_rfl)(hr:(Region.ready md ops listed).contains i=true:=by kernel_rfl)(hQ:∀c a w,Q (.panic c) (a.put oi.dst v) w->Q (.panic c) a w:=by exact fun _ _ _ h=>h):wpAnyH P md ops Q S (fuel+1) listed a w:=xZ hi hs hf hr hQ hy hS h
section
open Go.RowKit Go.Shelf
namespace Ci
def QIn(w:World)(B:Nat)(v:Value)(l:List Nat):Prop :=
 (∃A,v=.slice A 0 0/\l=[]/\∀b,v.ownBlock=some b->B<=b/\b<w.heap.size) \/
 ∃g o cap,v=.slice (some ⟨g,o,none⟩) l.length cap/\B<=g/\g<w.heap.size/\l.length<=cap/\(∀j,j<cap->(w.cell? ⟨g,o+j,none⟩).isSome=true)/\(∀j,w.frozen? ⟨g,j,none⟩=false)/\∀j (h:j<l.length),w.cell? ⟨g,o+j,none⟩=some (.int .i64 (l[j]:Int))
section
variable {w w':World} {B:Nat} {v:Value} {l:List Nat} {q:Nat}
theorem QIn.block(h:QIn w B v l){b:Nat}(hb:v.ownBlock=some b):B<=b/\b<w.heap.size:=by
 rcases h with⟨A,rfl,_,h⟩|⟨g,o,cap,rfl,h1,h2,_⟩
 .exact h b hb
 cases hb;exact⟨h1,h2⟩
theorem QIn.grown{row:Option Nat}(h:QIn w B v l)(hg:w.grownBy w' row)(d:v.ownBlock=none\/v.ownBlock≠row):QIn w' B v l:=by
 rcases h with⟨A,rfl,h1,h2⟩|⟨g,o,cap,rfl,h1,h2,h3,h4,h5,h6⟩
 .exact .inl ⟨A,rfl,h1,fun b hb=>⟨(h2 b hb).1,zJ (h2 b hb).2 hg.size⟩⟩
 have hb:w'.heap[g]? = w.heap[g]?:=hg.block g h2 fun e=>by
  rcases d with d|d
  .cases d
  exact d e
 refine .inr ⟨g,o,cap,rfl,h1,zJ h2 hg.size,h3,fun j hj=>?_,fun j=>?_,fun j hj=>?_⟩
 .rw[zU (a:=⟨g,o+j,none⟩) hb];exact h4 j hj
 .rw[yF (a:=⟨g,j,none⟩) hb];exact h5 j
 rw[zU (a:=⟨g,o+j,none⟩) hb];exact h6 j hj
theorem QIn.set(h:QIn w B v l){a:Addr}(ha:v.ownBlock≠some a.block)(u:Value):QIn (w.setCell a u) B v l :=
 h.grown (row:=some a.block) ⟨rfl,rfl,rfl,by simp,fun k _ hk=>zg _ _ _ _ (fun e=>hk (by rw[e]))⟩ (.inr ha)
theorem QIn.alloc(h:QIn w B v l)(o:Obj):QIn (w.alloc o) B v l :=
 h.grown (row:=none) ⟨rfl,rfl,rfl,by simp,fun k hk _=>heap_alloc_old w o hk⟩ (by cases hq:v.ownBlock<;>simp)
theorem QIn.drew(h:QIn w B v l):QIn w.drew B v l:=h
theorem QIn.head{p:Nat}(h:QIn w B v (p::l)):∃g o cap,v=.slice (some ⟨g,o,none⟩) (l.length+1) cap/\B<=g/\g<w.heap.size/\l.length+1<=cap/\w.cell? ⟨g,o,none⟩=some (.int .i64 (p:Int)) /\
 QIn w B (.slice (some (if cap=1 then ⟨g,o,none⟩ else ⟨g,o+1,none⟩)) l.length (cap-1)) l:=by
 rcases h with⟨A,_,h1,_⟩|⟨g,o,cap,rfl,h1,h2,h3,h4,h5,h6⟩
 .cases h1
 refine⟨g,o,cap,rfl,h1,h2,h3,by have:=h6 0 (by simp);simpa using this,?_⟩;simp only[zZ]at h3
 by_cases e:cap=1
 .rw[zF e];have hl:l=[]:=List.length_eq_zero_iff.1 (by omega);subst hl;subst e;exact .inl ⟨_,rfl,rfl,fun b hb=>by cases hb;exact⟨h1,h2⟩⟩
 rw[zE e];refine .inr ⟨g,o+1,cap-1,rfl,h1,h2,by omega,fun j hj=>?_,h5,fun j hj=>?_⟩
 .have:=h4 (j+1) (by omega)
  rwa [show o+1+j=o+(j+1) by omega]
 have:=h6 (j+1) (by simp;omega);rw[show o+1+j=o+(j+1) by omega]
 simpa using this
theorem QIn.of_row{e:TypeId}{u:Value}(h:w.ownsRow B e 1 u l.length (l.map fun(q:Nat)=>.int .i64 (q:Int))):QIn w B u l:=by
 rcases h.2 with⟨rfl,h0⟩|⟨g,cap,cur,rfl,hb,hg,h1,_,h3,_⟩
 .exact .inl ⟨none,rfl,List.length_eq_zero_iff.1 h0,fun b hb=>by cases hb⟩
 have d:∀o,(⟨g,0,none⟩:Addr).add o=⟨g,0+o,none⟩:=fun o=>by unfold Addr.add;split<;>simp_all
 refine .inr ⟨g,0,cap,rfl,hb,(Array.getElem?_eq_some_iff.1 hg).1,h1,fun j hj=>?_,fun j=>by simp[World.frozen?,hg],fun j hj=>?_⟩
 .simp only[World.cell?,hg];have:0+j<cur.size:=by omega
  simp at this;simp[this]
 have hc:=h.cells (g:=g) (by simp[Value.ownBlock]) j (.int .i64 (l[j]:Int)) (by simp[hj])
 rwa [d]at hc
theorem QIn.mono{B':Nat}(h:QIn w B v l)(hb:B'<=B):QIn w B' v l:=by
 rcases h with⟨A,rfl,h1,h2⟩|⟨g,o,cap,rfl,h1,h2⟩
 .exact .inl ⟨A,rfl,h1,fun b e=>⟨zQ hb (h2 b e).1,(h2 b e).2⟩⟩
 exact .inr ⟨g,o,cap,rfl,zQ hb h1,h2⟩
theorem GU{P:Program}(t ty e:TypeId)(i:TypeInfo)(z:Value)(bytes:Nat)(ht:P.underlying t=some (.slice e))(hi:P.info? e=some i)(hz:i.zero=some z)
 (d:i.size=1)(ae:i.bytes=bytes)(ak:z.cells.size=1)(h:QIn w B v l)(hB:B<=w.heap.size)(ad:Addr)(c:Nat)(had:w.cell? ad=some (.int .i64 (q:Int)))
 (hb:(l.length+1)*bytes<=140737488355328)(hm:l.length+1<=maxLen):
 ∃v' w',(Builtin.append_ #[t,t] ty #[v,.slice (some ad) 1 c]).run P w=.ok v' w'/\QIn w' B v' (l++[q])/\w.grownBy w' v.ownBlock/\(v'.ownBlock=v.ownBlock\/v'.ownBlock=some w.heap.size):=by
 have aa:∀j u,[(Value.int .i64 (q:Int))][j]? = some u->w.cell? (ad.add j)=some u:=fun j u hj=>by
  match j,hj with
  |0,hj=>simp at hj;subst hj;rw[Addr.add_zero'];exact had
  |j+1,hj=>simp at hj
 have h1:∀u∈[(Value.int .i64 (q:Int))],u.oneCell'=true:=AQ _ rfl;have al:(l++[q]).map (fun(x:Nat)=>Value.int .i64 (x:Int))=l.map (fun(x:Nat)=>Value.int .i64 (x:Int))++[.int .i64 (q:Int)]:=by simp
 have fin:∀{v':Value} {w':World},w'.ownsRow w.heap.size e 1 v' (l.length+1) (l.map (fun(x:Nat)=>Value.int .i64 (x:Int))++[.int .i64 (q:Int)])->w.grownBy w' none->(v'.ownBlock=none\/v'.ownBlock=some w.heap.size)->QIn w' B v' (l++[q])/\w.grownBy w' v.ownBlock/\(v'.ownBlock=v.ownBlock\/v'.ownBlock=some w.heap.size):=fun {v' w'} ho hg hn=>by
  refine⟨(QIn.of_row (e:=e) (by rw[al,zX];exact ho)).mono hB,⟨hg.os,hg.tape,hg.output,hg.size,fun k hk _=>hg.block k hk (by simp)⟩,?_⟩
  rcases hn with hn|hn
  .rcases ho.2 with⟨_,h0⟩|⟨g,cap,cur,rfl,_⟩
   .omega
   cases hn
  exact .inr hn
 rcases h with⟨A,rfl,rfl,hA⟩|⟨g,o,cap,rfl,am,an,h3,h4,h5,h6⟩
 .cases A with
  |none=>
   obtain⟨v',w',hr,h2,h3,_⟩:=vK (P:=P) w B t ty e i z 1 bytes ht hi hz d ae ak (by decide) (.slice none 0 0) 0 [] (yf _ _ _ _) ad 1 c [.int .i64 (q:Int)] (by simp) aa h1 (by simpa using hm) (by simpa using hb) hB;have h5:=BI (P:=P) t ty e i z 1 bytes ht hi hz d ae (.slice none 0 0) 0 [] (yf w B _ _) ad 1 c [.int .i64 (q:Int)] (by simp) aa h1 (by decide) (by simpa using hm) (by simpa using hb) hr;refine⟨v',w',hr,QIn.of_row (e:=e) (by simpa using h2),h3,h5⟩
  |some b=>
   obtain⟨b1,b2⟩:=hA b.block rfl;obtain⟨v',w',hr,r1,r2⟩:=run_append_arg_grows (P:=P) w t ty e i z 1 bytes ht hi hz d ae ak (by decide) b 0 0 [] rfl (fun j u hj=>by simp at hj) ad 1 c [.int .i64 (q:Int)] (by simp) aa (by decide) (by simpa using hm) (by simpa using hb);refine⟨v',w',hr,fin (by simpa using r1) r2 ?_⟩
   rcases r1.2 with⟨_,h0⟩|⟨g,cap,cur,rfl,ap,ao,_⟩
   .cases h0
   have aj:=run_append_grow (P:=P) w t ty e i z ht hi hz b 0 0 [] (by simp) (fun j u hj=>by simp at hj) ad 1 c [.int .i64 (q:Int)] (by rw[d];simp) aa (by decide) (by decide) (growslice_fits (by decide) (by rw[ae];simpa using hb));rw[aj]at hr;simp only[Result.ok.injEq]at hr;rw[<-hr.1];exact .inr rfl
 by_cases hroom:l.length+1<=cap
 .have hr:=run_append_room_cells (P:=P) w t ty e i ht hi g o l.length cap ad 1 c [.int .i64 (q:Int)] (by rw[d];simp) aa h1 hroom
   (fun j hj=>by simp only[wQ]at hj;rw[d];have:=h4 (l.length+j) (by omega);rwa [show o+l.length*1+j=o+(l.length+j) by omega]) (fun j _=>h5 _)
  rw[d]at hr
  have ah:∀j,j<cap->j≠l.length->(w.setCell ⟨g,o+l.length*1,none⟩ (.int .i64 (q:Int))).cell? ⟨g,o+j,none⟩=w.cell? ⟨g,o+j,none⟩:=fun j _ aq=>
   yu _ _ _ _ (fun e=>by injection e with _ e2;omega)
  have af:(w.setCell ⟨g,o+l.length*1,none⟩ (.int .i64 (q:Int))).cell? ⟨g,o+l.length,none⟩=some (.int .i64 (q:Int)):=by
   have h7:=h4 l.length (by omega);obtain⟨u,hu⟩:=Option.isSome_iff_exists.1 h7;rw[Nat.mul_one];exact xN _ _ _ hu
  refine⟨_,_,hr,.inr ⟨g,o,cap,by simp,am,by simpa [World.setCells] using an,by simpa using hroom,fun j hj=>?_,fun j=>?_,fun j hj=>?_⟩,?_,.inl rfl⟩
  .by_cases e:j=l.length
   .subst e
    show ((w.setCell _ _).cell? _).isSome=true
    rw[af];rfl
   show ((w.setCell _ _).cell? _).isSome=true
   rw[ah j hj e];exact h4 j hj
  .show (w.setCell _ _).frozen? _=false
   rw[World.frozen?_setCell];exact h5 j
  .by_cases e:j=l.length
   .subst e
    show (w.setCell _ _).cell? _=_
    rw[af];simp
   have ai:j<l.length:=by simp at hj;omega
   show (w.setCell _ _).cell? _=_
   rw[ah j (by omega) e,h6 j ai];simp[ai]
  exact⟨rfl,rfl,rfl,by simp[World.setCells],fun k _ hk=>zg _ _ _ _ (fun e=>hk (by rw[e];rfl))⟩
 have ag:∀j u,(l.map fun(x:Nat)=>Value.int .i64 (x:Int))[j]? = some u->w.cell? ((⟨g,o,none⟩:Addr).add j)=some u:=fun j u hj=>by
  obtain⟨ai,e⟩:=List.getElem?_eq_some_iff.1 hj;rw[Addr.add_lit,h6 j (by simpa using ai),<-e];simp
 obtain⟨v',w',hr,r1,r2⟩:=run_append_arg_grows (P:=P) w t ty e i z 1 bytes ht hi hz d ae ak (by decide) ⟨g,o,none⟩ l.length cap (l.map fun(x:Nat)=>Value.int .i64 (x:Int)) (by simp) ag ad 1 c [.int .i64 (q:Int)] (by simp) aa (by omega) hm hb;refine⟨v',w',hr,fin r1 r2 ?_⟩;have aj:=run_append_grow (P:=P) w t ty e i z ht hi hz ⟨g,o,none⟩ l.length cap (l.map fun(x:Nat)=>Value.int .i64 (x:Int)) (by rw[d];simp) ag ad 1 c [.int .i64 (q:Int)] (by rw[d];simp) aa (by omega) (by simp only[maxLen]at hm;omega) (growslice_fits (by omega) (by rw[ae];exact hb));rw[aj]at hr;simp only[Result.ok.injEq]at hr;rw[<-hr.1];exact .inr rfl
end
theorem QIn.form{w:World}{B:Nat}{v:Value}{l:List Nat}(h:QIn w B v l):∃A c,v=.slice A l.length c:=by
 rcases h with⟨A,rfl,rfl,_⟩|⟨g,o,cap,rfl,_⟩
 .exact⟨A,0,rfl⟩
 exact⟨_,_,rfl⟩
theorem F1{P:Program}(w:World){ops:Array Oper}{rest:List Oper}{o:Oper}{a:Act}{Q:Exit->Act->World->Prop}(af:o.guard=none)(s x:Operand)(t:TypeId)
 (ho:o.op=.call { callee:=.builtin .append,args:=#[s,x],argTypes:=#[t,t] })
 (B:Nat)(e:TypeId)(i:TypeInfo)(z:Value)(bytes:Nat)(ht:P.underlying t=some (.slice e))(hi:P.info? e=some i)(hz:i.zero=some z)
 (d:i.size=1)(ae:i.bytes=bytes)(ag:z.cells.size=1)
 (v:Value)(l:List Nat)(q:Nat)(hs:a.eval s=v)(h:QIn w B v l)(hB:B<=w.heap.size)(ad:Addr)(c:Nat)(hx:a.eval x=.slice (some ad) 1 c)(had:w.cell? ad=some (.int .i64 (q:Int)))
 (hb:(l.length+1)*bytes<=140737488355328)(hm:l.length+1<=maxLen)
 (hK:∀v' w',QIn w' B v' (l++[q])->w.grownBy w' v.ownBlock->(v'.ownBlock=v.ownBlock\/v'.ownBlock=some w.heap.size)->wpList P ops Q rest (a.put o.dst v') w'):wpList P ops Q (o::rest) a w :=
 wpList_plain af fun _ aa=>by
  obtain⟨v',w',hr,h2,h3,h4⟩:=GU (P:=P) t o.type e i z bytes ht hi hz d ae ag h hB ad c had hb hm;unfold Oper.wp execOp;simp only[ho,resolve,invoke,builtin,vn,vS,wX,ws,xS,vi,hs,hx,hr];exact aa _ _ (hK v' w' h2 h3 h4)
end Ci
end
section
open Go.RowKit Go.Shelf
namespace Ci
open Nt
def BTq(n m:Nat):List Value:=List.replicate m (.int .i64 (-1))++List.replicate (n-m) (.int .i64 0)
theorem NY(n:Nat):BTq n 0=List.replicate n (.int .i64 0):=by simp[BTq]
theorem QC(n:Nat):BTq n n=List.replicate n (.int .i64 (-1)):=by simp[BTq]
theorem JY{n m:Nat}(h:m<=n):(BTq n m).length=n:=by simp[BTq];omega
theorem TC{n m j:Nat}(h:j<m):(BTq n m)[j]? = some (.int .i64 (-1)):=by
 unfold BTq;rw[xw (by simpa using h),v6,zF h]
theorem Gy{n m c:Nat}(h:m+c<=n):splice (BTq n m) m (List.replicate c (.int .i64 (-1)))=BTq n (m+c):=by
 unfold splice BTq;rw[List.take_left' (by simp),xY,List.drop_append,List.drop_eq_nil_of_le (by simp),yM,xY,List.drop_replicate,<-xr,List.replicate_append_replicate,show n-m-(m+c-m)=n-(m+c) by omega]
theorem NZ(n:Nat):madeCells #[(.int .i64 0:Value)] n=(BTq n 0).toArray:=by
 rw[NY];unfold madeCells;apply Array.ext
 .simp
 intro i h1 h2;simp;rw[qB];rfl
theorem GV:(prog.info? 3).map (fun i=>(i.zero,i.size,i.bytes))=some (some (.int .i64 0),1,8):=by kernel_rfl
theorem TD:(prog.info? 3).map (·.size)=some 1:=by kernel_rfl
theorem E6(n b:Nat)(w:World)(hn:n<=1000)(hb:w.cell? ⟨b,0,none⟩=some (.int .i64 (-1)))(aq:b<w.heap.size):
 Calls prog 73 #[.slice (some ⟨b,0,none⟩) 1 1,.int .i64 (n:Int)] w fun e w'=>(e=.returned (.slice (some ⟨w.heap.size,0,none⟩) n n)/\w'.heap[w.heap.size]? = some (.cells (List.replicate n (.int .i64 (-1))).toArray 3 (0,0)))/\Below w.heap.size w w':=by
 have kb:Hid (∀W,Calls prog 118 #[.int .u64 1,.int .u64 (n:Int)] W fun e w'=>e=.returned (.tuple #[.int .u64 0,.int .u64 (n:Int)])/\w'=W):=fun W=>by
  have h:=Tryz.bits_Mul 1 n (by decide) (by omega) W;have h1:(1*n/18446744073709551616:Nat)=0:=by omega
  have h2:(1*n%18446744073709551616:Nat)=n:=by omega
  rw[h1,h2]at h;exact h
 have au:=vE (P:=prog) 37 3 (.int .i64 0) 8 underlying37 GV rfl .i64 .i64 n (by omega) (by omega)
 have an:Hid ((w.alloc (.cells (madeCells #[(.int .i64 0:Value)] n) 3)).heap[w.heap.size]? = some (.cells (BTq n 0).toArray 3 (0,0))):=by
  have h:=ym w (.cells (madeCells #[(.int .i64 0:Value)] n) 3);unfold Hid;rw[h,NZ]
 have aj:Hid (Below w.heap.size w (w.alloc (.cells (madeCells #[(.int .i64 0:Value)] n) 3))):=(zI _ w).alloc (zB _) _;have am:Hid ((w.alloc (.cells (madeCells #[(.int .i64 0:Value)] n) 3)).cell? ⟨b,0,none⟩=some (.int .i64 (-1))):=(aj.o.cell (p:=⟨b,0,none⟩) aq).trans hb;have d:Hid ((List.replicate (min 1 n) (Value.int .i64 (-1))).length=min 1 n):=xY;have ah:Hid (∀c,∀v∈List.replicate c (Value.int .i64 (-1)),v.oneCell'=true):=fun c v hv=>by rw[(List.mem_replicate.1 hv).2];rfl
 have ad:Hid (0+(List.replicate (min 1 n) (Value.int .i64 (-1))).length<=(BTq n 0).length):=by
  unfold Hid;rw[JY (zS _),xY];omega
 have aa:Hid (∀j v,(List.replicate (min 1 n) (Value.int .i64 (-1)))[j]? = some v->(w.alloc (.cells (madeCells #[(.int .i64 0:Value)] n) 3)).cell? (Addr.add ⟨b,0,none⟩ j)=some v):=fun j v hj=>by
  rw[v6]at hj
  split at hj
  .have h0:j=0:=by omega
   subst h0;rw[Addr.add_zero',<-Option.some.inj hj];exact am.o
  cases hj
 have ae:Hid (goInt (List.replicate (min 1 n) (Value.int .i64 (-1))).length=.int .i64 ((min 1 n:Nat):Int)):=by
  unfold Hid goInt;rw[xY]
 have ai:Hid (splice (BTq n 0) 0 (List.replicate (min 1 n) (Value.int .i64 (-1)))=BTq n (min 1 n)):=by
  have:=Gy (n:=n) (m:=0) (c:=min 1 n) (by omega)
  rwa [yS]at this
 clear hb;go_enter func73,ntmps73
 go_wp2_with fail
 refine(kb.o _).mono ?_;rintro e w2 ⟨rfl,rfl⟩
 go_wp2_with (refine wpList_copy_splice rfl _ _ _ _ rfl 3 underlying37 TD _ _ _ _ _ _ rfl rfl w2.heap.size 0 (BTq n 0) 3 an.o (List.replicate (min 1 n) (.int .i64 (-1))) d.o (fun _=>⟨rfl,_,rfl,aa.o⟩) ad.o (ah.o _) w2.heap.size w2 aj.o (zB _) ?_;intro w3 al af;rw[ai.o]at al;rw[ae.o];replace af:=zh af)
 clear au an aj am d ad aa ae ai
 go_loopw [8] (fun m wr=>∃k:Nat,m=.int .i64 (k:Int)/\k<=n/\(0<n->0<k)/\Hid (wr.heap[w2.heap.size]? = some (.cells (BTq n k).toArray 3 (0,0)))/\Hid (Below w2.heap.size w2 wr)) (fun m _=>n-(intOf m).toNat)
 case atStart=>exact⟨min 1 n,rfl,by omega,by omega,al,af⟩
 case round=>
  obtain⟨k,rfl,hk,ar,hg,hB⟩:=hrel;clear al af
  by_cases hlt:k<n
  .have ax:n≠k:=by omega
   have aw:0<k:=ar (by omega);have d:Hid ((List.replicate (min k (n-k)) (Value.int .i64 (-1))).length=min k (n-k)):=xY
   have ag:Hid (k+(List.replicate (min k (n-k)) (Value.int .i64 (-1))).length<=(BTq n k).length):=by
    unfold Hid;rw[JY (by omega),xY];omega
   have aa:Hid (∀j v,(List.replicate (min k (n-k)) (Value.int .i64 (-1)))[j]? = some v->wr.cell? (Addr.add ⟨w2.heap.size,0,none⟩ j)=some v):=fun j v hj=>by
    rw[v6]at hj
    split at hj
    .rename_i hj2;rw[Addr.add_lit,<-Option.some.inj hj,yS];have h1:(BTq n k)[j]? = some (.int .i64 (-1)):=TC (by omega);have h2:=hg.o;simp[World.cell?,h2,h1]
    cases hj
   have ae:Hid (goInt (List.replicate (min k (n-k)) (Value.int .i64 (-1))).length=.int .i64 ((min k (n-k):Nat):Int)):=by
    unfold Hid goInt;rw[xY]
   have ap:Hid (splice (BTq n k) k (List.replicate (min k (n-k)) (Value.int .i64 (-1)))=BTq n (k+min k (n-k))):=Gy (by omega);go_wp2
   go_region_law (refine step_copy_splice rfl (.tmp 41) (.tmp 44) 37 37 rfl 3 underlying37 TD (some ⟨w2.heap.size,k,none⟩) (some ⟨w2.heap.size,0,none⟩) (n-k) (n-k) k n (by simp[Act.eval,Act.put]) (by simp[Act.eval,Act.put]) w2.heap.size k (BTq n k) 3 hg.o (List.replicate (min k (n-k)) (.int .i64 (-1))) d.o (fun _=>⟨rfl,_,rfl,aa.o⟩) ag.o (ah.o _) w2.heap.size w2 hB.o.drew (zB _) ?_;intro w4 ao ak;rw[ap.o]at ao;rw[ae.o];replace ak:=zh ak)
   clear d ag aa ae ap hg hB
   have av:IntKind.i64.wrap ((k:Int)+((min k (n-k):Nat):Int))=((k+min k (n-k):Nat):Int):=by
    rw[IntKind.wrap_i64];omega
   simp only[av];dsimp only[Act.put,List.getElem_toArray,List.getElem_cons_succ,List.getElem_cons_zero];simp only[zA,zC,zD];go_wp2
   go_roundw
   case rel=>exact⟨k+min k (n-k),by go_num,by omega,by omega,ao,ak⟩
   case measure=>simp only[intOf];omega
  obtain rfl:k=n:=by omega
  have hG:Hid (wr.heap[w2.heap.size]? = some (.cells (List.replicate k (.int .i64 (-1))).toArray 3 (0,0))):=by
   have h:=hg.o
   rwa [QC]at h
  go_wp2;go_ret;exact⟨⟨rfl,hG.o⟩,hB.o⟩
def D5(n:Int)(l:List Int)(k:Nat)(h:k<l.length):Prop:=(0<=l[k]/\l[k]<n)/\(0<k->l[k-1]'(by omega)<l[k])
instance (n:Int) (l:List Int) (k:Nat) (h:k<l.length):Decidable (D5 n l k h):=inferInstanceAs (Decidable (_/\_))
def AZ(n:Int)(l:List Int):Bool:=decide (∀k (h:k<l.length),D5 n l k h)
theorem Ml{n:Int}{l:List Int}{k:Nat}(h:k<l.length)(hb:¬D5 n l k h):AZ n l=false:=zH fun hc=>hb (hc k h)
theorem Mm{n:Int}{l:List Int}(h:∀k (h:k<l.length),D5 n l k h):AZ n l=true:=zG h
def toN(F:List Int):List Nat:=F.map Int.toNat
def Oa(s:SR)(F:List Int)(w:World)(e:Ending)(w':World):Prop :=
 (if Ak s=true/\AZ s.ps.length F=true then ∃b,e=.returned (.tuple #[.slice (some ⟨b,0,none⟩) s.ps.length s.ps.length,.int .i64 0])/\w.heap.size<=b/\RoI w' b s.ps.length (rk (Ah s) (toN F))
   else e=.returned (.tuple #[.slice none 0 0,.int .i64 1]))/\Below w.heap.size w w'
theorem D6{n:Int}{l:List Int}(h:AZ n l=true){k:Nat}(hk:k<l.length):D5 n l k hk:=zL h k hk
theorem Ob{n:Int}{F:List Int}(h:AZ n F=true){k:Nat}(hk:k<F.length):∃p:Nat,F[k]=(p:Int)/\(p:Int)<n/\(toN F)[k]? = some p:=by
 have h1:=(D6 h hk).1;refine⟨F[k].toNat,by omega,by omega,by simp[toN,hk]⟩
theorem Oc{n:Nat}{F:List Int}(h:AZ n F=true){p:Nat}(hp:p∈toN F):p<n:=by
 obtain⟨x,hx,rfl⟩:=List.mem_map.1 hp;obtain⟨k,hk,rfl⟩:=zi hx;have:=(D6 h hk).1;omega
theorem Od{n:Nat}{F:List Int}(h:AZ n F=true):(toN F).Pairwise (·<·):=by
 have hs:∀(i j:Nat)(hi:i<F.length)(hj:j<F.length),i<j->F[i]<F[j]:=by
  intro i j hi hj d
  induction j with
  |zero=>omega
  |succ j ih=>
   have h1:=(D6 h hj).2 (by omega);simp only[vB]at h1
   by_cases e:i=j
   .subst e;exact h1
   have:=ih (by omega) (by omega);omega
 unfold toN;rw[List.pairwise_map];refine List.pairwise_iff_getElem.2 fun i j hi hj d=>?_;have:=hs i j hi hj d;have:=(D6 h hi).1;have:=(D6 h hj).1;omega
theorem JZ{n:Nat}{F:List Int}(h:AZ n F=true):(toN F).Nodup:=(Od h).imp fun h=>xK h
theorem TE{W:World}{base:Nat}{e:TypeId}{u:Value}{l:List Nat}(h:W.ownsRow base e 1 u l.length (Bv l)):
 ∃A cap,u=.slice A l.length cap/\∀j (hj:j<l.length),∃g,A=some ⟨g,0,none⟩/\g<W.heap.size/\W.cell? ⟨g,j,none⟩=some (.int .i64 (l[j]:Int)):=by
 rcases D3 h with⟨rfl,rfl⟩|⟨g,cap,rfl,_,h1,_,h2⟩
 .exact⟨none,0,rfl,fun j hj=>absurd hj (yB _)⟩
 exact⟨_,cap,rfl,fun j hj=>⟨g,rfl,h1,h2 j hj⟩⟩
theorem QD(A:Option Addr)(c:Nat)(F:List Int)(w:World)(hF:InInt w A F)(h0:∀x,x∈F->0<=x)(hl:F.length<=1000):
 Calls prog 74 #[.slice A F.length c] w fun e w'=>(∃v,e=.returned v/\QIn w' w.heap.size v (toN F))/\Below w.heap.size w w':=by
 by_cases h:0<F.length
 .obtain ⟨b,o,rfl,hb,hc⟩:=hF h
  have hz:∀j,j<F.length->w.cell? ⟨b,o+j,none⟩=some (.int .i64 (F.getD j 0)):=fun j hj=>by
   rw[hc j hj];simp[hj]
  refine(Tryz.slices_Clone_int b o F.length c F w (zB _) (by omega) hz).mono ?_;rintro e w' ⟨v,rfl,ho,_,d⟩;refine⟨⟨v,rfl,QIn.of_row (e:=3) ?_⟩,d⟩;have e1:(toN F).length=F.length:=by simp[toN]
  have e2:((toN F).map fun(q:Nat)=>Value.int .i64 (q:Int))=F.map (Value.int .i64):=by
   unfold toN;rw[xz];refine xi fun x hx=>?_;have:=h0 x hx;simp only[Function.comp_apply]
   congr 1
   omega
  rw[e1,e2]
  simpa using ho
 have h1:F=[]:=List.length_eq_zero_iff.1 (by omega);subst h1
 cases A with
 |none=>
  refine(Tryz.slices_Clone_int_nil 0 c w).mono ?_;rintro e w' ⟨rfl,rfl⟩;exact⟨⟨_,rfl,.inl ⟨none,rfl,rfl,fun b hb=>by cases hb⟩⟩,zI _ _⟩
 |some a=>
  refine(Tryz.slices_Clone_int_zero a c w).mono ?_;rintro e w' ⟨v,rfl,ho,_,hb⟩;exact⟨⟨v,rfl,QIn.of_row (e:=3) (by simpa [toN] using ho)⟩,hb⟩
theorem OQ(w:World)(v:Value)(t:TypeId):(w.alloc (.cells #[v] t)).cell? ⟨w.heap.size,0,none⟩=some v:=by
 have:=BO w v t 0 v rfl
 rwa [Addr.add_zero']at this
theorem VG{n p:Nat}{o:Nat->Int}(hp:p<n)(h:0<=o p):FG n o+1<=n:=by
 have h1:=Fh (f:=fun x=>decide (o x<0)) (g:=fun _=>true) (l:=List.range n) (fun _ _ _=>rfl) ⟨p,List.mem_range.2 hp,zH (by omega),rfl⟩
 have h2:(List.filter (fun _=>true) (List.range n)).length=n:=by
  rw[List.filter_eq_self.2 fun _ _=>rfl,yh]
 rw[h2]at h1;exact h1
theorem VH(n:Nat)(o:Nat->Int):FG n o<=n:=by
 have:=zy (fun x=>decide (o x<0)) (List.range n);rw[yh]at this;exact this
def Bd(n:Nat)(o:Nat->Int):Prop:=∀x,x<n->o x+(FG n o:Int)<n
theorem Bd.start{n:Nat}{F:List Nat}{o:Nat->Int}(h:∀x,o x=if x∈F then 0 else -1):Bd n o:=fun x hx=>by
 by_cases e:x∈F
 .have h1:o x=0:=by rw[h x,zF e]
  have:=VG hx (by omega:0<=o x);omega
 have h1:o x=-1:=by rw[h x,zE e]
 have:=VH n o;omega
theorem Bd.set{n p q:Nat}{o:Nat->Int}(h:Bd n o)(hp:p<n)(hq:q<n)(h0:o q<0)(hv:0<=o p):Bd n (Er o q (o p+1)):=fun x hx=>by
 have h1:=Lr hq h0 (v:=o p+1) (by omega);have h2:=h p hp;have h3:=h x hx
 by_cases e:x=q
 .rw[e,Bb];omega
 rw[AI e];omega
def ini(F:List Nat)(k:Nat)(x:Nat):Int:=if x∈F.take k then 0 else -1
theorem Mn{F:List Nat}{k p:Nat}(h:F[k]? = some p)(x:Nat):Er (ini F k) p 0 x=ini F (k+1) x:=by
 unfold Er ini;obtain⟨hk,rfl⟩:=List.getElem?_eq_some_iff.1 h
 have hm:x∈F.take (k+1)<->x∈F.take k\/x=F[k]:=by
  rw[zP hk,yc,xE]
 by_cases e:x=F[k]
 .rw[zF e,zF (hm.2 (.inr e))]
 rw[zE e]
 by_cases e2:x∈F.take k
 .rw[zF e2,zF (hm.2 (.inl e2))]
 rw[zE e2,zE fun c=>(hm.1 c).elim e2 e]
theorem Pe(F:List Nat)(x:Nat):ini F F.length x=if x∈F then 0 else -1:=by unfold ini;rw[zu]
theorem Fs(s:SR)(Ap Ac Av Af:Option Addr)(cp cc cv cf:Nat)(F:List Int)(w:World)(hE:Env w)(hs:StIn w s Ap Ac Av)(bE:s.cap.length<=300)(hF:InInt w Af F)(bU:F.length<=140737488355328):
 Calls prog 35 #[.agg #[.slice Ap s.ps.length cp,.slice Ac s.cap.length cc,.slice Av s.vot.length cv],.slice Af F.length cf] w (Oa s F w):=by
 have bS:=hs.np;have ba:=zh (fun(k:Nat) (h:k<F.length) (hb:¬D5 s.ps.length F k h)=>Ml h hb);have a9:=zh (Mm (n:=(s.ps.length:Int)) (l:=F));have ag:Hid (Bk (w.alloc (.cells #[.slice Ap s.ps.length cp,.slice Ac s.cap.length cc,.slice Av s.vot.length cv] 32)) w.heap.size 32 (SC s Ap Ac Av cp cc cv)):=Bk.new w _ _;have ae:Hid (Below w.heap.size w (w.alloc (.cells #[.slice Ap s.ps.length cp,.slice Ac s.cap.length cc,.slice Av s.vot.length cv] 32))):=(zI _ w).alloc (zB _) _;have ai:Hid (∀e w',(¬(Ak s=true/\AZ s.ps.length F=true))->e=.returned (.tuple #[.slice none 0 0,.int .i64 1])->Below w.heap.size w w'->Oa s F w e w'):=fun e w' h1 h2 h3=>⟨by rw[zE h1];exact h2,h3⟩;have u0:=ag.o.c0;have u9:=ag.o.lt;replace hE:=zh hE;replace hs:=zh hs;replace hF:=zh hF;go_enter func35,ntmps35;go_wp2;obtain⟨wa,br⟩:∃x,x=w.alloc (.cells #[.slice Ap s.ps.length cp,.slice Ac s.cap.length cc,.slice Av s.vot.length cv] 32):=⟨_,rfl⟩;rw[<-br]at ag ae ⊢;clear u0 u9 br
 go_loop [22] (fun i=>∃k:Nat,k<=F.length/\i=.int .i64 (k:Int)/\Hid (∀j (h:j<F.length),j<k->D5 s.ps.length F j h)) (fun i=>F.length-(intOf i).toNat)
 case atStart=>exact⟨0,zS _,rfl,fun j _ h=>absurd h (yB _)⟩
 case round=>
  obtain⟨k,hk,rfl,hI⟩:=hrel
  by_cases hlt:k<F.length
  .obtain ⟨b1,o1,rfl,bC,ah⟩:=(hF.o.below ae.o) (by omega);have e1:=ah k hlt;have e0:Hid (0<k->wa.cell? ⟨b1,o1+(k-1),none⟩=some (.int .i64 (F[k-1]'(by omega)))):=fun h=>ah (k-1) (by omega);have aP:=zh (ba.o k hlt)
   have a6:Hid (D5 s.ps.length F k hlt->∀j (h:j<F.length),j<k+1->D5 s.ps.length F j h):=fun h j h1 h3=>by
    by_cases e:j=k
    .subst e;exact h
    exact hI.o j h1 (by omega)
   have ap:Hid (D5 s.ps.length F k hlt<->(0<=F[k]/\F[k]<s.ps.length)/\(0<k->F[k-1]'(by omega)<F[k])):=wH;obtain⟨x,hx⟩:∃x,x=F[k]:=⟨_,rfl⟩;rw[<-hx]at e1 ap;have j0:(0:Int)<=(k:Int):=by omega
   have j1:(k:Int)<(F.length:Int):=by omega
   clear ah hI hx;have bG:x<0\/(0<=x/\(s.ps.length:Int)<=x)\/(0<=x/\x<s.ps.length):=by omega
   rcases bG with h1|⟨h1,h2⟩|⟨h1,h2⟩
   .have hG:=zh (aP.o fun h=>by have:=(ap.o.1 h).1.1;omega);have m1:decide (x<0)=true:=zG h1;go_wp2;go_ret2;exact ai.o _ _ (fun h=>by rw[hG.o]at h;cases h.2) rfl ae.o
   .have hG:=zh (aP.o fun h=>by have:=(ap.o.1 h).1.2;omega);have m1:decide (x<0)=false:=zH (by omega);have m2:decide ((s.ps.length:Int)<=x)=true:=zG h2;go_wp2;go_ret2;exact ai.o _ _ (fun h=>by rw[hG.o]at h;cases h.2) rfl ae.o
   have m1:decide (x<0)=false:=zH (by omega);have m2:decide ((s.ps.length:Int)<=x)=false:=zH (by omega)
   by_cases hk0:k=0
   .have m3:decide (0<(k:Int))=false:=zH (by omega);have m4:decide (0<k)=false:=zH (by omega);have aN:=zh (a6.o (ap.o.2 ⟨⟨h1,h2⟩,fun h=>by omega⟩));replace hk0:=zh hk0;go_wp2;go_round
    case rel=>exact⟨k+1,by omega,by go_num,aN⟩
    case measure=>simp[intOf];omega
   have m3:decide (0<(k:Int))=true:=zG (by omega);have m4:decide (0<k)=true:=zG (by omega);have e2:=e0.o (by omega);obtain⟨y,hy⟩:∃y,y=F[k-1]'(by omega):=⟨_,rfl⟩;rw[<-hy]at e2;have j2:(0:Int)<=(k:Int)-1:=by omega
   have j3:(k:Int)-1<(F.length:Int):=by omega
   have j4:IntKind.i64.wrap ((k:Int)-1)=(k:Int)-1:=wN _ (by omega);have j5:((k:Int)-1).toNat=k-1:=by omega
   by_cases hxy:y<x
   .have m5:decide (x<=y)=false:=zH (by omega);have aN:=zh (a6.o (ap.o.2 ⟨⟨h1,h2⟩,fun _=>by rw[<-hy];exact hxy⟩));replace hy:=zh hy;go_wp2;go_round
    case rel=>exact⟨k+1,by omega,by go_num,aN⟩
    case measure=>simp[intOf];omega
   have m5:decide (x<=y)=true:=zG (by omega);have hG:=zh (aP.o fun h=>by have h3:=(ap.o.1 h).2 (by omega);rw[<-hy]at h3;omega);replace hy:=zh hy;go_wp2;go_ret2;exact ai.o _ _ (fun h=>by rw[hG.o]at h;cases h.2) rfl ae.o
  obtain rfl:k=F.length:=by omega
  have hL:=zh (a9.o fun j h=>hI.o j h h);clear ba a9 hI;have u0:=ag.o.c0;have u1:=ag.o.c1;have u2:=ag.o.c2;have u9:=ag.o.lt;have ks:=Dk s Ap Ac Av cp cc cv wa (hE.o.below ae.o) (hs.o.below ae.o)
  cases d:Ak s with
  |false=>
   rw[d]at ks;replace ks:=zh ks;replace d:=zh d
   go_wp2_with fail
   refine ks.o.q fun w2 hb=>?_;have au:=ae.t hb;clear hb;go_wp2;go_ret2;exact ai.o _ _ (fun h=>by rw[d.o]at h;cases h.1) rfl au.o
  |true=>
   rw[d]at ks;replace ks:=zh ks
   have bR:s.ps.length<=60:=by
    unfold Ak at d;simp only[zr,yC]at d;exact d.2.1
   have bi:Hid (∀x,x∈s.cap->(0<=x.1/\x.1<s.ps.length)/\(0<=x.2.1/\x.2.1<s.ps.length)):=fun x hx=>by
    unfold Ak at d;simp only[zr]at d;obtain⟨i,hi,rfl⟩:=zi hx;exact⟨(DH d.2.2.1 hi).1.1,(DH d.2.2.1 hi).1.2.1⟩
   have aI:=zh (LD d);have aL:Hid (∀e w' b,e=.returned (.tuple #[.slice (some ⟨b,0,none⟩) s.ps.length s.ps.length,.int .i64 0])->w.heap.size<=b->RoI w' b s.ps.length (rk (Ah s) (toN F))->Below w.heap.size w w'->Oa s F w e w'):=fun e w' b h1 h2 h3 h4=>⟨by rw[zF ⟨d,hL.o⟩];exact⟨b,h1,h2,h3⟩,h4⟩;replace d:=zh d;clear ai
   go_wp2_with fail
   refine ks.o.q fun w2 hb=>?_;have au:=ae.t hb;have bc:=zh (ag.o.below hb);clear hb ks u0 u1 u2 u9 ae ag;have kr:=zh (E6 s.ps.length w2.heap.size (w2.alloc (.cells #[.int .i64 (-1)] 3)) (by omega) (OQ w2 _ _) (by simp));have av:Hid (Below w.heap.size w (w2.alloc (.cells #[.int .i64 (-1)] 3))):=au.o.alloc au.o.size _;have aw:=zh (bc.o.alloc (.cells #[.int .i64 (-1)] 3));obtain⟨b0,aS⟩:∃b,b=(w2.alloc (.cells #[.int .i64 (-1)] 3)).heap.size:=⟨_,rfl⟩;rw[<-aS]at kr;have bZ:w.heap.size<b0:=by have:=aw.o.lt;omega
   go_wp2_with fail
   refine kr.o.mono ?_;rintro e w3 ⟨⟨rfl,ak⟩,hb⟩;have a2:=zh (av.o.trans (hb.mono (by have:=av.o.size;omega)));have bd:=zh (aw.o.below (by rw[<-aS];exact hb));have aB:Hid (RoI w3 b0 s.ps.length (ini (toN F) 0)):=(RoI.of_row ak).congr fun x _=>by unfold ini;rw[va,zE (by simp)]
   clear hb kr aS ak au bc av aw;go_wp2
   go_loopw [56] (fun i wr=>∃(k:Nat)(o:Nat->Int),k<=F.length/\i=.int .i64 (k:Int)/\Hid (Kp [b0] w3 wr)/\Hid (RoI wr b0 s.ps.length o)/\Hid (∀x,o x=ini (toN F) k x)) (fun i _=>F.length-(intOf i).toNat)
   case atStart=>exact⟨0,_,zS _,rfl,Kp.refl _ _,aB,fun _=>rfl⟩
   case round=>
    obtain⟨k,o,hk,rfl,hK,hR,ho⟩:=hrel;clear aB;have ao:Hid (Below w.heap.size w wr):=hK.o.to_below a2.o fun x hx=>by rw[List.mem_singleton.1 hx];omega
    by_cases hlt:k<F.length
    .obtain ⟨p,bn,bY,bo⟩:=Ob hL.o hlt;obtain⟨b1,o1,rfl,bC,ah⟩:=(hF.o.below ao.o) (by omega);have e1:=ah k hlt;rw[bn]at e1;have aq:p<s.ps.length:=by omega
     have e2:=hR.o.cell p aq;have e3:=hR.o.fr p;have aQ:=zh (hR.o.set aq 0);have aO:=zh (hK.o.set (a:=⟨b0,p,none⟩) (.int .i64 0) (.inl (List.mem_singleton.2 rfl)))
     have bL:Hid (∀x,Er o p 0 x=ini (toN F) (k+1) x):=fun x=>by
      rw[<-Mn bo x];unfold Er;rw[ho.o x]
     have j0:(0:Int)<=(k:Int):=by omega
     have j1:(k:Int)<(F.length:Int):=by omega
     have j2:(0:Int)<=(p:Int):=by omega
     clear ah bn bo;go_wp2;exact⟨⟨k+1,_,by omega,by go_num,aO,aQ,bL⟩,by simp only[intOf];omega⟩
    obtain rfl:k=F.length:=by omega
    have ax:=zh (bd.o.kp hK.o (by simp;omega))
    have aW:Hid (∀x,o x=if x∈toN F then 0 else -1):=fun x=>by
     rw[ho.o x,<-Pe];have:(toN F).length=F.length:=by simp[toN]
     rw[this]
    have u0:=ax.o.c0;have u1:=ax.o.c1;have u2:=ax.o.c2;have u9:=ax.o.lt;have ko:=zh (Tx s Ap Ac Av cp cc cv wr (hs.o.below ao.o) (by omega) bE bi.o);have a4:=zh (hF.o.below ao.o);clear ho hK bd a2 hF
    go_wp2_with fail
    refine ko.o.mono ?_;rintro e w4 ⟨⟨R,v,rfl,hG⟩,hb⟩;have bT:=hb.size;have bt:Hid (Below w.heap.size w w4):=ao.o.trans (hb.mono ao.o.size);have aR:=zh (hR.o.below hb);have bO:b0<w4.heap.size:=aR.o.lt
    have bv:F.length<=1000:=by
     have h1:=Cy s.ps.length (toN F) (JZ hL.o) fun x hx=>Oc hL.o hx;have h2:(toN F).length=F.length:=by simp[toN]
     omega
    have a5:=zh (a4.o.below hb)
    have kc:=zh (QD Af cf F w4 a5.o (fun x hx=>by
     obtain⟨i,hi,rfl⟩:=zi hx;exact(D6 hL.o hi).1.1) bv)
    have aK:Hid (b0≠R/\∀i b,i<s.ps.length->(v i).ownBlock=some b->b∉[b0]):=by
     have h1:=hR.o.lt;have h2:=hG.lowR;refine⟨by omega,fun i b hi e hm=>?_⟩;have h3:=((hG.rows i hi).lt b e).1;rw[List.mem_singleton.1 hm]at h3;omega
    have bX:=hG.lt;replace hG:=zh hG;have af:=zh (Bf.start (E:=Ah s) (JZ hL.o) (fun f hf=>Oc hL.o hf) fun x _=>aW.o x);have ad:=zh (Bd.start (n:=s.ps.length) aW.o);have ay:Hid (∀p q,q∈Cs (Ah s) (Ah s).length p<->(p,q)∈Ah s):=fun _ _=>Ma
    have be:Hid (∀p,(Cs (Ah s) (Ah s).length p).length<=300):=fun p=>by
     unfold Cs;rw[zW];have h1:=zy (fun x:Nat×Nat=>decide (x.1=p)) ((Ah s).take (Ah s).length);have h2:((Ah s).take (Ah s).length).length<=(Ah s).length:=vO _ _;have h3:(Ah s).length=s.cap.length:=by simp[Ah]
     omega
    obtain⟨adj,az⟩:∃a,a=Cs (Ah s) (Ah s).length:=⟨_,rfl⟩;rw[<-az]at hG ay be;have a3:Hid (∀f,f∈toN F->f<s.ps.length):=fun f hf=>Oc hL.o hf;obtain⟨i0,aV,bs⟩:=Option.map_eq_some_iff.1 GV;simp only[Prod.mk.injEq]at bs;obtain⟨aZ,a0,a1⟩:=bs;replace aV:=zh aV;replace aZ:=zh aZ;replace a0:=zh a0;replace a1:=zh a1;clear hb ko hR ao u0 u1 u2 u9 ax az aW a4 a5 bi
    go_wp2_with fail
    refine kc.o.mono ?_;rintro e w5 ⟨⟨vq,rfl,hQ⟩,hb⟩;have a8:=zh ((Kp.refl [b0] w4).below hb);have bb:=zh (aR.o.below hb);replace hQ:=zh hQ;clear hb kc aR;go_wp2
    go_loopg [13] ((toN F).length+FG s.ps.length o) (fun m u wr=>∃(o:Nat->Int)(queue:List Nat),m=queue.length+FG s.ps.length o/\Hid (QIn wr w4.heap.size u queue)/\Hid (Kp [b0] w4 wr)/\Hid (RoI wr b0 s.ps.length o)/\Hid (Bf s.ps.length (Ah s) (toN F) (fun _=>False) o queue)/\Hid (Bd s.ps.length o))
    case atStart=>exact⟨_,_,rfl,hQ,a8,bb,af,ad⟩
    case round=>
     clear hQ a8 bb af ad;obtain⟨o1,queue,hm,hQ,hK,hR,af,ad⟩:=hrel
     cases queue with
     |nil=>
      obtain⟨A,c,rfl⟩:=hQ.o.form;have bB:Hid (RoI wr b0 s.ps.length (rk (Ah s) (toN F))):=hR.o.congr fun x hx=>af.o.end a3.o aI.o hx;have bu:Hid (Below w.heap.size w wr):=hK.o.to_below bt.o fun x hx=>by rw[List.mem_singleton.1 hx];omega
      clear hQ hm;go_wp2;go_ret2;exact aL.o _ _ b0 rfl (by omega) bB.o bu.o
     |cons p queue=>
      obtain⟨g,of,cap,rfl,_,_,bP,bF,_⟩:=hQ.o.head;have aq:=(af.o.pos p (zf ..)).1;have aM:=hG.o.kp hK.o (by simp;exact fun e=>aK.o.1 e.symm) aK.o.2;have d1:=aM.hd p aq;have bQ:=aM.lt;obtain⟨A,cr,aY,ak⟩:=TE (hG.o.rows p aq);rw[aY]at d1;have aa:=zh (Bq.start af.o);have bj:Hid (queue.length+FG s.ps.length o1<gk):=by rw[hm];simp only[zZ];unfold Hid;omega
      have aG:=zh (fun q (h:(p,q)∈Ah s)=>(ay.o p q).2 h);have aJ:=zh (fun q (h:q∈adj p)=>(ay.o p q).1 h);have bN:=be.o p
      have aU:Hid (∀j (hj:j<(adj p).length),∃gg,A=some ⟨gg,0,none⟩/\gg<w4.heap.size/\gg∉[b0]/\w4.cell? ⟨gg,j,none⟩=some (.int .i64 ((adj p)[j]:Int))):=fun j hj=>by
       obtain⟨gg,hA,h1,h2⟩:=ak j hj;exact⟨gg,hA,h1,aK.o.2 p gg aq (by rw[aY,hA];rfl),h2⟩
      have p0:(0:Int)<=(p:Int):=by omega
      have p1:(p:Int)<(s.ps.length:Int):=by omega
      have q0:(0:Int)<(queue.length:Int)+1:=by omega
      clear aM aY ak hm af;go_wp2
      go_loopw [13,81] (fun u ix wz=>∃(j:Nat)(o2:Nat->Int)(q2:List Nat)(A2:Option Addr)(c2:Nat),j<=(adj p).length/\u=.slice A2 (q2.length+1) c2/\ix=.int .i64 (j:Int)/\Hid (QIn wz w4.heap.size (.slice A2 (q2.length+1) c2) (p::q2))/\Hid (Kp [b0] w4 wz)/\Hid (RoI wz b0 s.ps.length o2)/\Hid (Bq s.ps.length (Ah s) (toN F) p (o1 p) ((adj p).take j) o2 q2)/\Hid (Bd s.ps.length o2)/\Hid (q2.length+FG s.ps.length o2<=queue.length+FG s.ps.length o1)) (fun _ ix _=>(adj p).length-(intOf ix).toNat)
      case atStart=>exact⟨0,o1,queue,_,_,zS _,rfl,rfl,hQ,hK,hR,aa,ad,zB _⟩
      case round=>
       clear hQ hK hR aa ad;obtain⟨j,o2,q2,A2,c2,hj,rfl,rfl,hQ,hK,hR,aa,ad,aC⟩:=hrel
       by_cases hjl:j<(adj p).length
       .obtain ⟨gg,rfl,bH,bI,bh⟩:=aU.o j hjl;have e1:=(zU (a:=⟨gg,j,none⟩) (hK.o.block gg bH bI)).trans bh;have aD:=aJ.o _ (zO hjl);have aF:(adj p).take (j+1)=(adj p).take j++[(adj p)[j]]:=zP hjl;obtain⟨q,bq⟩:∃x,x=(adj p)[j]:=⟨_,rfl⟩;rw[<-bq]at e1 aD aF;have ar:q<s.ps.length:=(aI.o _ aD).2;have e2:=hR.o.cell q ar;have j0:(0:Int)<=(j:Int):=by omega
        have j1:(j:Int)<((adj p).length:Int):=by omega
        have j2:(0:Int)<=(q:Int):=by omega
        have j3:(q:Int)<(s.ps.length:Int):=by omega
        clear bq bh aU
        by_cases hneg:o2 q<0
        .have m1:decide (o2 q<0)=true:=zG hneg;have an:=aa.o.here;have aH:=aa.o.cur;have bM:=aa.o.v0;have e3:=hR.o.cell p an;have e4:=hR.o.fr q;have bg:=ad.o p an;have jw:IntKind.i64.wrap (o2 p+1)=o2 p+1:=wN _ (by omega);have aQ:=zh (hR.o.set ar (o2 p+1));have aO:=zh (hK.o.set (a:=⟨b0,q,none⟩) (.int .i64 (o2 p+1)) (.inl (List.mem_singleton.2 rfl)));have aX:(Value.slice A2 (q2.length+1) c2).ownBlock≠some b0:=fun e=>by have:=(hQ.o.block e).1;omega
         have bx:=zh (hQ.o.set (a:=⟨b0,q,none⟩) aX (.int .i64 (o2 p+1)))
         have al:Hid (Bq s.ps.length (Ah s) (toN F) p (o1 p) ((adj p).take (j+1)) (Er o2 q (o2 p+1)) (q2++[q])):=by
          rw[aH,aF];exact aa.o.set ar aD hneg
         have bf:=zh (ad.o.set an ar hneg (by omega));have bK:=Lr ar hneg (v:=o2 p+1) (by omega)
         have bm:Hid ((q2++[q]).length+FG s.ps.length (Er o2 q (o2 p+1))<=queue.length+FG s.ps.length o1):=by
          have h:=aC.o;unfold Hid;rw[zX,wQ];omega
         have bz:=zh (bx.o.alloc (.cells #[.int .i64 (q:Int)] 3));have aB:=zh (aQ.o.alloc (.cells #[.int .i64 (q:Int)] 3));have a7:=zh (aO.o.alloc (.cells #[.int .i64 (q:Int)] 3));have aA:w4.heap.size<=((wr.setCell ⟨b0,q,none⟩ (.int .i64 (o2 p+1))).alloc (.cells #[.int .i64 (q:Int)] 3)).heap.size:=a7.o.size
         have am:(p::q2).length+1<=400:=by
          have h1:=Cy s.ps.length (p::q2) (List.nodup_cons.2 ⟨aa.o.off,aa.o.inv.nodup⟩) fun x hx=>by
           rcases List.mem_cons.1 hx with rfl|hx
           .exact an
           exact(aa.o.inv.pos x hx).1
          omega
         replace am:=zh am;replace aA:=zh aA;have bD:Hid (∀b,(Value.slice A2 (q2.length+1) c2).ownBlock=some b->b∈[b0]\/w4.heap.size<=b):=fun b e=>.inr (hQ.o.block e).1;have bp:=zh aX;clear hR hK hQ bg aH bM bK aX hneg
         have had:Hid (((wr.setCell ⟨b0,q,none⟩ (.int .i64 (o2 p+1))).alloc (.cells #[.int .i64 (q:Int)] 3)).cell? ⟨wr.heap.size,0,none⟩=some (.int .i64 (q:Int))):=by
          have h:=OQ (wr.setCell ⟨b0,q,none⟩ (.int .i64 (o2 p+1))) (.int .i64 (q:Int)) 3
          rwa [World.size_setCell]at h
         go_wp2_with (at_builtin;refine F1 _ rfl _ _ 37 rfl w4.heap.size 3 i0 (.int .i64 0) 8 underlying37 aV.o aZ.o a0.o a1.o rfl (.slice A2 (q2.length+1) c2) (p::q2) q rfl bz.o aA.o ⟨wr.heap.size,0,none⟩ 1 rfl had.o (by have:=am.o;omega) (by have:=am.o;unfold maxLen;omega) ?_;intro vb wb aE aT bJ;have bw:=zh (a7.o.grown aT bD.o);have bA:=zh (aB.o.grown aT bp.o);obtain⟨A9,c9,rfl⟩:=aE.form;replace aE:=zh aE;clear aT bJ)
         exact⟨⟨j+1,_,q2++[q],A9,c9,by omega,by rw[zX,wQ],by go_num,by have h:=aE.o;unfold Hid;simpa using h,bw,bA,al,bf,bm⟩,by simp only[intOf];omega⟩
        have m1:decide (o2 q<0)=false:=zH hneg;have al:=zh (aa.o.skip ar (by omega));rw[<-aF]at al;clear aF aD;go_wp2;exact⟨⟨j+1,o2,q2,_,_,by omega,rfl,by go_num,hQ,hK,hR,al,ad,aC⟩,by simp only[intOf];omega⟩
       obtain rfl:j=(adj p).length:=by omega
       have af:=zh (aa.o.end fun q hq=>by rw[zu];exact aG.o q hq);obtain⟨g9,o9,c9,he,_,_,bW,_,aj⟩:=hQ.o.head;injection he with he1 _ he3;subst he1 he3;have bk:q2.length+FG s.ps.length o2<gk:=zn aC.o bj.o;have z1:(1:Int)<=(q2.length:Int)+1:=by omega
       have z2:(q2.length:Int)+1<=(c2:Int):=by omega
       replace ad:=zh ad.o;clear aa hQ aC bj aG aJ aU
       by_cases ah:c2=1
       .subst ah;have h0:q2=[]:=List.length_eq_zero_iff.1 (by omega);subst h0;rw[zF rfl]at aj;replace aj:Hid (QIn wr w4.heap.size (.slice (some ⟨g9,o9,none⟩) 0 0) []):=aj;go_wp2
        go_roundg (FG s.ps.length o2)
        case measure=>simpa using bk
        case rel=>exact⟨o2,[],by simp,aj,hK,hR,af,ad⟩
       rw[zE ah]at aj;replace aj:=zh aj;go_wp2
       go_roundg (q2.length+FG s.ps.length o2)
       case measure=>exact bk
       case rel=>exact⟨o2,q2,rfl,aj,hK,hR,af,ad⟩
end Ci
end
section
open Go.RowKit Go.Shelf
attribute [local go_sem] wG
namespace Bd
open Nt Ci Sh
def DL(L:List Lp)(F:List Nat)(ab:Bool)(v:Nat->Rat)(r:Nat->Int)(p:Nat):Prop :=
 (ab=true->(p∈F->1<=v p)/\(p∉F->Ao p v L<=v p))/\(ab=false->Wy L F v r p)
def rnk(R:List Int)(p:Nat):Int:=R.getD p 0
def Chk(s:SR)(F:List Int)(ab:Bool)(V:List Raw)(R:List Int):Prop :=
 (Ak s=true/\AZ s.ps.length F=true)/\V.length=s.ps.length/\R.length=(if ab then 0 else s.ps.length)/\Hk V=true/\∀p,p<s.ps.length->DL (Ag s.cap) (toN F) ab (D4 V) (rnk R) p
theorem TF{P:Program}{Q:Exit->Act->World->Prop}{c:Code}{t:Array Value}{ds:List Deferred}{w:World}(h:∀fr,fr=t->c.wp P Q { tmps:=fr,defers:=ds } w):c.wp P Q { tmps:=t,defers:=ds } w:=h t rfl
theorem Mo(q:Rat):((rq q).2.1.toList==[48])=decide (q=0):=(Bp q.num.natAbs).trans (decide_eq_decide.2 ⟨fun h=>Rat.num_eq_zero.1 (Int.natAbs_eq_zero.1 h),fun h=>by rw[h];rfl⟩)
def Gd(L:List Lp)(v:Nat->Rat)(r:Nat->Int)(p i:Nat):Prop:=0<=r (L.getD i (0,0,0)).2.1/\r (L.getD i (0,0,0)).2.1<r p/\v (L.getD i (0,0,0)).2.1≠0
def NG{n:Nat}(L:List Lp)(v:Nat->Rat)(r:Nat->Int)(p:Nat)(pre:List (EF n)):Prop:=∀i,i∈pre->¬Gd L v r p i.1
def SG{n:Nat}(L:List Lp)(v:Nat->Rat)(r:Nat->Int)(p:Nat)(pre:List (EF n)):Prop:=∃i,i∈pre/\Gd L v r p i.1
theorem NG.snoc{n:Nat}{L:List Lp}{v:Nat->Rat}{r:Nat->Int}{p:Nat}{pre:List (EF n)}{x:EF n}(h:NG L v r p pre)(hx:¬Gd L v r p x.1):NG L v r p (pre++[x]):=fun i hi=>by
 rcases List.mem_append.1 hi with h1|h1
 .exact h i h1
 rw[List.mem_singleton.1 h1];exact hx
theorem SG.snoc{n:Nat}{L:List Lp}{v:Nat->Rat}{r:Nat->Int}{p:Nat}(pre:List (EF n)){x:EF n}(hx:Gd L v r p x.1):SG L v r p (pre++[x]):=⟨x,List.mem_append.2 (.inr (List.mem_singleton.2 rfl)),hx⟩
theorem IK{s:SR}{i:Nat}(hi:i<s.cap.length):(Ag s.cap).getD i (0,0,0)=(Ag s.cap)[i]'(by unfold Ag;rw[zW];exact hi):=by
 rw[yH,ze (by unfold Ag;rw[zW];exact hi)];rfl
theorem QE{s:SR}(ae:Ak s=true){v:Nat->Rat}{r:Nat->Int}{p:Nat}(h:∃x,x∈Ag s.cap/\x.1=p/\0<=r x.2.1/\r x.2.1<r p/\v x.2.1≠0):∃i:EF s.cap.length,i∈DT (p:Int) s.cap s.cap.length/\Gd (Ag s.cap) v r p i.1:=by
 obtain⟨x,hx,h1,h2⟩:=h;obtain⟨i,hi,rfl⟩:=zi hx;have d:i<s.cap.length:=by have:(Ag s.cap).length=s.cap.length:=by { unfold Ag;rw[zW] };omega
 obtain⟨co,ho,part,aa,ad,_,_⟩:=Dl ae (k:=i) d;refine⟨⟨i,d⟩,?_,?_⟩
 .unfold DT;refine List.mem_filterMap.2 ⟨i,List.mem_range.2 d,?_⟩;rw[dif_pos d,zF];rw[aa];rw[ad]at h1
  show (co:Int)=(p:Int)
  have:co=p:=h1;rw[this]
 unfold Gd;rw[IK d];exact h2
theorem QF{s:SR}(ae:Ak s=true){v:Nat->Rat}{r:Nat->Int}{p k:Nat}{i:EF s.cap.length}(h:i∈DT (p:Int) s.cap k)(hg:Gd (Ag s.cap) v r p i.1):∃x,x∈Ag s.cap/\x.1=p/\0<=r x.2.1/\r x.2.1<r p/\v x.2.1≠0:=by
 obtain⟨j,hj⟩:=i;unfold DT at h;obtain⟨j2,_,h2⟩:=List.mem_filterMap.1 h;unfold Gd at hg;rw[IK hj]at hg;refine⟨_,zO _,?_,hg⟩;obtain⟨co,ho,part,aa,ad,_,_⟩:=Dl ae (k:=j) hj;rw[ad]
 show co=p
 by_cases c:j2<s.cap.length
 .rw [dif_pos c]at h2
  by_cases d:s.cap[j2].1=(p:Int)
  .rw[zF d]at h2
   cases h2
   rw[aa]at d;have:(co:Int)=(p:Int):=d;omega
  rw[zE d]at h2;cases h2
 rw[dif_neg c]at h2;cases h2
theorem BU{c:Bool}{A B:Prop}(h:c=false)(hb:B):if c=true then A else B:=by subst h;exact hb
theorem BV{c:Bool}{A B:Prop}(h:c=true)(ha:A):if c=true then A else B:=by subst h;exact ha
theorem Dd(A:Option Addr)(ca:Nat)(l:List Int)(x:Int)(w:World)(hA:InInt w A l)(hl:l.length<=140737488355328):
 Calls prog 53 #[.slice A l.length ca,.int .i64 x] w fun e w'=>e=.returned (.bool (decide (x∈l)))/\w'=w:=by
 have k:=GQ A ca l x w hA hl;have hm:=Xg (l:=l) (x:=x);replace hA:=zh hA;generalize Fz l x=i at k hm;rw[<-hm];clear hm;go_enter func53,ntmps53
 go_wp2_with fail
 refine k.q fun w1 hw=>?_;obtain rfl:=hw;clear k;go_wp2;go_ret;exact⟨rfl,rfl⟩
def ChkPost(s:SR)(F:List Int)(ab:Bool)(V:List Raw)(R:List Int)(w:World)(e:Ending)(w':World):Prop:=(∃r,e=.returned (.bool r)/\(r=true<->Chk s F ab V R))/\Below w.heap.size w w'
theorem ChkPost.no{s:SR}{F:List Int}{ab:Bool}{V:List Raw}{R:List Int}{w:World}{w':World}(h:¬Chk s F ab V R)(hb:Below w.heap.size w w'):ChkPost s F ab V R w (.returned (.bool false)) w' :=
 ⟨⟨false,rfl,by simp[h]⟩,hb⟩
theorem ChkPost.no'{s:SR}{F:List Int}{ab:Bool}{V:List Raw}{R:List Int}{w:World}{e:Ending}{w':World}(h:¬Chk s F ab V R)(he:e=.returned (.bool false))(hb:Below w.heap.size w w'):ChkPost s F ab V R w e w':=by
 subst he;exact ChkPost.no h hb
theorem ChkPost.yes{s:SR}{F:List Int}{ab:Bool}{V:List Raw}{R:List Int}{w:World}{e:Ending}{w':World}(h:Chk s F ab V R)(he:e=.returned (.bool true))(hb:Below w.heap.size w w'):ChkPost s F ab V R w e w':=by
 subst he;exact⟨⟨true,rfl,by simp[h]⟩,hb⟩
theorem Oe(s:SR)(Ap Ac Av Af Aw Ar:Option Addr)(cp cc cv cf cw cr:Nat)(F:List Int)(V:List Raw)(R:List Int)(w:World)(hE:Env w)(hs:StIn w s Ap Ac Av)(aO:s.cap.length<=300)(hF:InInt w Af F)(a4:F.length<=140737488355328)
 (hV:InRow w Aw V)(bi:V.length<=140737488355328)(aY:∀k (h:k<V.length),V[k].2.1.size<=140737488355328/\V[k].2.2.size<=140737488355328)(hR:InInt w Ar R)(_hRl:R.length<=140737488355328):
 Calls prog 17 #[.agg #[.slice Ap s.ps.length cp,.slice Ac s.cap.length cc,.slice Av s.vot.length cv],.slice Af F.length cf,.agg #[.bool true,.slice Aw V.length cw,.slice Ar R.length cr]] w (ChkPost s F true V R w):=by
 have aD:=zh (fun(h:¬Chk s F true V R) (e:Ending) (w':World) (he:e=.returned (.bool false)) (hb:Below w.heap.size w w')=>ChkPost.no' h he hb);obtain⟨w0,d⟩:∃X,X=((w.alloc (.cells #[.slice Ap s.ps.length cp,.slice Ac s.cap.length cc,.slice Av s.vot.length cv] 32)).alloc (.cells #[.bool true,.slice Aw V.length cw,.slice Ar R.length cr] 53)):=⟨_,rfl⟩;have aj:Hid (Below w.heap.size w w0):=by rw[d];exact((zI _ w).alloc (zB _) _).alloc (by simp) _
 have ax:Hid (Bk w0 w.heap.size 32 [.slice Ap s.ps.length cp,.slice Ac s.cap.length cc,.slice Av s.vot.length cv]):=by rw[d];exact(Bk.new w _ _).alloc _
 have aw:Hid (Bk w0 (w.heap.size+1) 53 [.bool true,.slice Aw V.length cw,.slice Ar R.length cr]):=by
  rw[d];have h:=Bk.new (w.alloc (.cells #[.slice Ap s.ps.length cp,.slice Ac s.cap.length cc,.slice Av s.vot.length cv] 32)) 53 [.bool true,.slice Aw V.length cw,.slice Ar R.length cr];rw[zV]at h;exact h
 have kr:=zh (Fs s Ap Ac Av Af cp cc cv cf F w0 (hE.below aj.o) (hs.below aj.o) aO (hF.below aj.o) a4);have bn:=hs.np;replace hE:=zh hE;replace hs:=zh hs;replace hF:=zh hF;replace hV:=zh hV;replace aY:=zh aY;replace hR:=zh hR;have u0:=ax.o.c0;have u1:=ax.o.c1;have u2:=ax.o.c2;have u9:=ax.o.lt;have v0:=aw.o.c0;have v1:=aw.o.c1;have v2:=aw.o.c2;have v9:=aw.o.lt
 by_cases hg:Ak s=true/\AZ s.ps.length F=true
 rotate_left
 .skip
  have af:Hid (¬Chk s F true V R):=fun h=>hg h.1;have az:Hid (Calls prog 35 #[.agg #[.slice Ap s.ps.length cp,.slice Ac s.cap.length cc,.slice Av s.vot.length cv],.slice Af F.length cf] w0 fun e w'=>e=.returned (.tuple #[.slice none 0 0,.int .i64 1])/\Below w0.heap.size w0 w'):=kr.o.mono fun e w' h=>⟨by have h1:=h.1;rw[zE hg]at h1;exact h1,h.2⟩;replace hg:=zh hg;clear kr;refine(wJ (n:=3)).1 ?_;refine xW func17 rfl trivial ?_ rfl;simp only[ntmps17,yq,zZ,yR,Nat.reduceAdd,Nat.reduceSub,yW,yX,yv,yj,yM,yY];refine wpIn_wide.2 ?_;rw[d]at u0 u1 u2 u9 v0 v1 v2 v9;rw[d]at az;replace d:=zh d
  go_wp2_with fail
  go_step3
  go_wp2_with fail
  refine az.o.q fun w1 hb=>?_;rw[<-d.o]at hb;have aq:=aj.t hb;have ad:=zh (ax.o.below hb);have aa:=zh (aw.o.below hb);clear hb az u0 u1 u2 u9 v0 v1 v2 v9;have u0:=ad.o.c0;have u1:=ad.o.c1;have u2:=ad.o.c2;have u9:=ad.o.lt;have v0:=aa.o.c0;have v1:=aa.o.c1;have v2:=aa.o.c2;have v9:=aa.o.lt;go_wp2
  (try rw[yN])
  exact⟨_,xO rfl _ _ _,aD.o af.o _ _ rfl aq.o⟩
 skip
 have az:Hid (Calls prog 35 #[.agg #[.slice Ap s.ps.length cp,.slice Ac s.cap.length cc,.slice Av s.vot.length cv],.slice Af F.length cf] w0 fun e w'=>(∃b,e=.returned (.tuple #[.slice (some ⟨b,0,none⟩) s.ps.length s.ps.length,.int .i64 0]))/\Below w0.heap.size w0 w'):=kr.o.mono fun e w' h=>⟨by have h1:=h.1;rw[zF hg]at h1;obtain⟨b,e1,_⟩:=h1;exact⟨b,e1⟩,h.2⟩;replace hg:=zh hg;clear kr;refine(wJ (n:=3)).1 ?_;refine xW func17 rfl trivial ?_ rfl;simp only[ntmps17,yq,zZ,yR,Nat.reduceAdd,Nat.reduceSub,yW,yX,yv,yj,yM,yY];refine wpIn_wide.2 ?_;rw[d]at u0 u1 u2 u9 v0 v1 v2 v9;rw[d]at az;replace d:=zh d
 go_wp2_with fail
 go_step3
 go_wp2_with fail
 refine az.o.mono ?_;rintro e w1 ⟨⟨rb,rfl⟩,hb⟩;rw[<-d.o]at hb;have aq:=aj.t hb;have ad:=zh (ax.o.below hb);have aa:=zh (aw.o.below hb);clear hb az u0 u1 u2 u9 v0 v1 v2 v9 aj ax aw d;have u0:=ad.o.c0;have u1:=ad.o.c1;have u2:=ad.o.c2;have u9:=ad.o.lt;have v0:=aa.o.c0;have v1:=aa.o.c1;have v2:=aa.o.c2;have v9:=aa.o.lt;have ks:=Dk s Ap Ac Av cp cc cv w1 (hE.o.below aq.o) (hs.o.below aq.o);rw[hg.o.1]at ks;replace ks:=zh ks
 go_wp2_with fail
 refine ks.o.q fun w2 hb=>?_;have ar:=aq.t hb;have a9:=zh (ad.o.below hb);have aB:=zh (aa.o.below hb);clear hb ks u0 u1 u2 u9 v0 v1 v2 v9 aq ad aa;have v0:=aB.o.c0;have v1:=aB.o.c1;have v2:=aB.o.c2;have v9:=aB.o.lt
 by_cases hvl:V.length=s.ps.length
 rotate_left
 .skip
  have af:Hid (¬Chk s F true V R):=fun h=>hvl h.2.1;have m1:((V.length:Int) != (s.ps.length:Int))=true:=by rw[zm];omega
  have m2:(V.length != s.ps.length)=true:=by rw[zm];exact hvl
  replace hvl:=zh hvl;go_wp2
  (try rw[yN])
  exact⟨_,xO rfl _ _ _,aD.o af.o _ _ rfl ar.o⟩
 skip
 have m1:((V.length:Int) != (s.ps.length:Int))=false:=by rw[zq];omega
 have m2:(V.length != s.ps.length)=false:=by rw[zq];exact hvl
 by_cases hrl:R.length=0
 rotate_left
 .skip
  have af:Hid (¬Chk s F true V R):=fun h=>hrl h.2.2.1;have m3:((R.length:Int) != 0)=true:=by rw[zm];omega
  have m4:(R.length != 0)=true:=by rw[zm];exact hrl
  replace hrl:=zh hrl;replace hvl:=zh hvl;go_wp2
  (try rw[yN])
  exact⟨_,xO rfl _ _ _,aD.o af.o _ _ rfl ar.o⟩
 skip
 have m3:((R.length:Int) != 0)=false:=by rw[zq];omega
 have m4:(R.length != 0)=false:=by rw[zq];exact hrl
 have kf:=LP Aw cw V w2 (hE.o.below ar.o) (hV.o.below ar.o (zB _)) bi aY.o;obtain⟨fb,am⟩:∃b,b=Hk V:=⟨_,rfl⟩;rw[<-am]at kf;replace kf:=zh kf;replace hvl:=zh hvl;replace hrl:=zh hrl
 go_wp2_with fail
 refine kf.o.q fun w3 hb=>?_;have ag:=ar.t hb;have aX:=zh (a9.o.below hb);have aH:=zh (aB.o.below hb);clear hb kf v0 v1 v2 v9 ar a9 aB m1 m2 m3 m4
 cases fb with
 |false=>
  have af:Hid (¬Chk s F true V R):=fun h=>by have h1:=h.2.2.2.1;rw[<-am]at h1;cases h1
  replace am:=zh am;go_wp2
  (try rw[yN])
  exact⟨_,xO rfl _ _ _,aD.o af.o _ _ rfl ag.o⟩
 |true=>
  have bb:=Ek am.symm;obtain⟨aI,D,ay⟩:=bb;rw[hvl.o]at aI;obtain⟨val,an⟩:∃f,f=D4 V:=⟨_,rfl⟩;rw[<-an]at aI ay;have bd:=zh (fun p=>ay.short p);have bj:=zh (fun p=>Mj hg.o.1 aO ay p);have ba:Hid (InRow w Aw (B9 s.ps.length val)):=by have h:=hV.o;rw[aI]at h;exact h
  have aS:Hid ((∀p,p<s.ps.length->DL (Ag s.cap) (toN F) true val (rnk R) p)<->Chk s F true V R):=⟨fun h=>⟨hg.o,hvl.o,hrl.o,am.symm,by rw[<-an];exact h⟩,fun h=>by rw[an];exact h.2.2.2.2⟩;have ksum:Hid (∀(p:Nat) W,Below w3.heap.size w3 W->Calls prog 49 #[.int .i64 (p:Int),.pointer (some ⟨w.heap.size,0,none⟩),.pointer (some ⟨w.heap.size+1,0,none⟩)] W fun e w'=>e=.returned (.agg #[.bool (rq (Ao p val (Ag s.cap))).1,.string (rq (Ao p val (Ag s.cap))).2.1,.string (rq (Ao p val (Ag s.cap))).2.2])/\Below W.heap.size W w'):=fun p W h=>Mh s Ap Ac Av Aw Ar cp cc cv cw cr R.length true w.heap.size (w.heap.size+1) p val W (hE.o.below (ag.o.trans (h.mono ag.o.size))) (hs.o.below (ag.o.trans (h.mono ag.o.size))).cap hg.o.1 aO (ba.o.below (ag.o.trans (h.mono ag.o.size)) (zB _)) (fun q _=>bd.o q) (fun i hi=>(KR hg.o.1 ay hi).2.2.2) (fun pre hp=>FU hg.o.1 aO ay pre hp) (aX.o.below h) (by have h2:=aH.o.below h;rw[hvl.o]at h2;exact h2);replace aI:=zh aI;replace ay:=zh ay;replace an:=zh an;replace am:=zh am;have v1:=aH.o.c1;have v9:=aH.o.lt
  go_wp2_with fail
  go_step3
  go_wp2_with fail
  rw[hvl.o];have bo:=zh hg.o.1;have bk:s.cap.length<=140737488355328:=by omega
  have a2:Hid (([.bool false,.string ⟨#[49]⟩,.string ⟨#[49]⟩]:List Value)=[.bool (rq (1)).1,.string (rq (1)).2.1,.string (rq (1)).2.2]):=zh (by kernel_rfl);obtain⟨ob,aQ⟩:∃x,x=w3.heap.size:=⟨_,rfl⟩;obtain⟨w4,aE⟩:∃X,X=w3.alloc (.cells #[.bool false,.string ⟨#[49]⟩,.string ⟨#[49]⟩] 48):=⟨_,rfl⟩;have a3:Hid (Below w.heap.size w w4):=by rw[aE];exact ag.o.alloc ag.o.size _
  have aA:Hid (Below w3.heap.size w3 w4):=by rw[aE];exact(zI _ _).alloc (zB _) _
  have bg:Hid (Bk w4 ob 48 [.bool (rq (1)).1,.string (rq (1)).2.1,.string (rq (1)).2.2]):=by rw[aE,aQ,<-a2.o];exact Bk.new _ _ _
  have bh:=zh (aH.o.below aA.o);have bm:=zh (aX.o.below aA.o);rw[<-aE,<-aQ];replace aE:=zh aE;replace aQ:=zh aQ;clear v1 v9 aH aX ag a2;have a5:Hid (∀j,j<0->DL (Ag s.cap) (toN F) true val (rnk R) j):=fun j h=>absurd h (yB _);have a7:Hid (Below w4.heap.size w4 w4):=zI _ _;have bf:Hid (∀y,y∈F->0<=y):=fun y hy=>by obtain⟨i,hi,rfl⟩:=zi hy;exact(D6 hg.o.2 hi).1.1
  have a0:Hid (∀p:Nat,p∈toN F<->(p:Int)∈F):=fun p=>by
   unfold toN;rw[vR];exact⟨fun⟨y,hy,e⟩=>by rw[<-e,Int.toNat_of_nonneg (bf.o y hy)];exact hy,fun h=>⟨(p:Int),h,by simp⟩⟩
  have s1:Hid (ShortQ 1):=⟨zJ (by decide:1<6000) (xF Q8),zJ (by decide:1<6000) (xF Q8)⟩
  go_loopw [62] (fun ix wr=>∃(p:Nat),p<=s.ps.length/\ix=.int .i64 (p:Int)/\Hid (∀j,j<p->DL (Ag s.cap) (toN F) true val (rnk R) j)/\Hid (Below w4.heap.size w4 wr)) (fun ix _=>s.ps.length-(intOf ix).toNat)
  case atStart=>exact⟨0,zS _,rfl,a5,a7⟩
  case round=>
   obtain⟨p,hp,rfl,hI,hK⟩:=hrel;clear a5 a7;obtain⟨wz,rfl⟩:∃z,z=wr:=⟨_,rfl⟩;have aF:=zh (a3.o.trans (hK.o.mono a3.o.size));have aW:=zh (aA.o.trans (hK.o.mono aA.o.size))
   by_cases hpn:p<s.ps.length
   .skip
    have a6:Hid (DL (Ag s.cap) (toN F) true val (rnk R) p->∀j,j<p+1->DL (Ag s.cap) (toN F) true val (rnk R) j):=fun h j hj=>by
     by_cases c:j=p
     .subst c;exact h
     exact hI.o j (by omega)
    have aT:Hid (¬DL (Ag s.cap) (toN F) true val (rnk R) p->¬Chk s F true V R):=fun h h2=>h (aS.o.2 h2 p hpn);obtain⟨ab,ao,rfl,al,ac⟩:=(ba.o.below aF.o (zB _)) (by rw[Au];omega);obtain⟨e0,e1,e2⟩:=ac p (by rw[Au];omega);rw[BN]at e0 e1 e2;clear ac;have j0:(0:Int)<=(p:Int):=by omega
    have j1:(p:Int)<(s.ps.length:Int):=by omega
    obtain⟨w6,ap⟩:∃X,X=((wz.alloc (.cells #[.int .i64 (p:Int)] 3)).alloc (.cells #[.bool (rq (val p)).1,.string (rq (val p)).2.1,.string (rq (val p)).2.2] 48)):=⟨_,rfl⟩;obtain⟨ib,aC⟩:∃x,x=wz.heap.size:=⟨_,rfl⟩;have aG:Hid (Below wz.heap.size wz w6):=by rw[ap];exact((zI _ wz).alloc (zB _) _).alloc (by simp) _
    have a8:Hid (Bk w6 ib 3 [.int .i64 (p:Int)]):=by rw[ap,aC];exact(Bk.new wz _ _).alloc _
    have aN:Hid (Bk w6 (ib+1) 48 [.bool (rq (val p)).1,.string (rq (val p)).2.1,.string (rq (val p)).2.2]):=by
     rw[ap,aC];have h:=Bk.new (wz.alloc (.cells #[.int .i64 (p:Int)] 3)) 48 [.bool (rq (val p)).1,.string (rq (val p)).2.1,.string (rq (val p)).2.2];rw[zV]at h;exact h
    have au:=zh (aF.o.trans (aG.o.mono aF.o.size));have ah:=zh (hK.o.trans (aG.o.mono hK.o.size));have aR:=zh (aW.o.trans (aG.o.mono aW.o.size));have aL:=zh (bg.o.below ah.o);have aM:=zh (bh.o.below ah.o);have kc:=Dd Af cf F (p:Int) w6 (hF.o.below au.o) a4;have aZ:=a0.o p;obtain⟨mb,aP⟩:∃b,b=decide ((p:Int)∈F):=⟨_,rfl⟩;rw[<-aP]at kc;rw[ap]at kc;replace kc:=zh kc;have bc:Hid (mb=true<->p∈toN F):=by rw[aP,ye];exact aZ.symm
    replace aP:=zh aP;replace ap:=zh ap;replace aC:=zh aC;replace aZ:=zh aZ
    go_wp2_with fail
    refine kc.o.q fun wq hq=>?_;rw[<-ap.o]at hq;obtain rfl:=hq
    (try rw[<-aC.o])
    clear kc e0 e1 e2 al hI aW aF hK ap aC;have o0:=aL.o.c0;have o1:=aL.o.c1;have o2:=aL.o.c2;have o9:=aL.o.lt;have x0:=aN.o.c0;have x1:=aN.o.c1;have x2:=aN.o.c2;have x9:=aN.o.lt;have y0:=a8.o.c0;have y9:=a8.o.lt;have f0:=aM.o.c0;have f1:=aM.o.c1;have f2:=aM.o.c2;have f9:=aM.o.lt;have ak:Hid (∀W,Below wq.heap.size wq W->Env W):=fun W h=>hE.o.below (au.o.trans (h.mono au.o.size));have ai:Hid (∀W,Below wq.heap.size wq W->Calls prog 49 #[.int .i64 (p:Int),.pointer (some ⟨w.heap.size,0,none⟩),.pointer (some ⟨w.heap.size+1,0,none⟩)] W fun e w'=>e=.returned (.agg #[.bool (rq (Ao p val (Ag s.cap))).1,.string (rq (Ao p val (Ag s.cap))).2.1,.string (rq (Ao p val (Ag s.cap))).2.2])/\Below W.heap.size W w'):=fun W h=>ksum.o p W (aR.o.trans (h.mono aR.o.size));have aK:=zh (bd.o p);have a1:=zh (bj.o p);obtain⟨sm,aJ⟩:∃q,q=Ao p val (Ag s.cap):=⟨_,rfl⟩;rw[<-aJ]at ai a1;replace aJ:=zh aJ;obtain⟨v,hv⟩:∃q,q=val p:=⟨_,rfl⟩;rw[<-hv]at x0 x1 x2 aK;replace hv:=zh hv;have HS:Hid (∀W,Below wq.heap.size wq W->(fun W=>W.cell? ⟨ob,0,none⟩=some (.bool (rq (1)).1)/\W.cell? ⟨ob,1,none⟩=some (.string (rq (1)).2.1)/\W.cell? ⟨ob,2,none⟩=some (.string (rq (1)).2.2)/\W.cell? ⟨ib+1,0,none⟩=some (.bool (rq (v)).1)/\W.cell? ⟨ib+1,1,none⟩=some (.string (rq (v)).2.1)/\W.cell? ⟨ib+1,2,none⟩=some (.string (rq (v)).2.2)/\W.cell? ⟨ib,0,none⟩=some (.int .i64 (p:Int))) W):=fun W h=>⟨(h.cell (p:=⟨ob,0,none⟩) o9).trans o0,(h.cell (p:=⟨ob,1,none⟩) o9).trans o1,(h.cell (p:=⟨ob,2,none⟩) o9).trans o2,(h.cell (p:=⟨ib+1,0,none⟩) x9).trans x0,(h.cell (p:=⟨ib+1,1,none⟩) x9).trans x1,(h.cell (p:=⟨ib+1,2,none⟩) x9).trans x2,(h.cell (p:=⟨ib,0,none⟩) y9).trans y0⟩
    go_wp2_with fail
    clear o0 o1 o2 o9 x0 x1 x2 x9 y0 y9 f0 f1 f2 f9
    cases mb with
    |true=>
     have hm:=bc.o.1 rfl
     by_cases h1v:1<=v
     rotate_left
     .skip
      have kl:Hid (∀W,Env W->Calls prog 54 #[.agg #[.bool (rq (1)).1,.string (rq (1)).2.1,.string (rq (1)).2.2],.agg #[.bool (rq (v)).1,.string (rq (v)).2.1,.string (rq (v)).2.2]] W fun e w'=>e=.returned (.bool false)/\Below W.heap.size W w'):=fun W hW=>by have h:=BS (1) (v) s1.o aK.o W hW;rw[zH h1v]at h;exact h
      have af:Hid (¬Chk s F true V R):=aT.o fun h=>h1v (by rw[hv.o];exact(h.1 rfl).1 hm);replace h1v:=zh h1v;replace hm:=zh hm;refine AT (by kernel_rfl) (by kernel_rfl) ?_
      repeat (
       with_reducible refine wI (fun K hK=>?_)
       first
        |(refine BU (by rfl) ?_;refine hK _ ?_;clear hK K;(try simp only[Act.put,zA,zD,zC]))
        |(refine BV (by rfl) ?_
          go_simp;apply Exists.intro;refine⟨fun W hW=>?_,hK _ ?_⟩
          first
           |(with_reducible exact AA hW (kl.o W (ak.o W hW)))
           |(with_reducible exact AA hW (ai.o W hW))
           |(obtain⟨q1,q2,q3,q4,q5,q6,q7⟩:=HS.o W hW;go_simp<;>with_reducible rfl)
          clear hK K))
      refine wU ?_;intro wf ae;have av:=au.o.trans (ae.mono au.o.size);replace av:=zh av;clear ae HS ak ai;go_wp2
      (try rw[yN])
      exact⟨_,xO rfl _ _ _,aD.o af.o _ _ rfl av.o⟩
     skip
     have kl:Hid (∀W,Env W->Calls prog 54 #[.agg #[.bool (rq (1)).1,.string (rq (1)).2.1,.string (rq (1)).2.2],.agg #[.bool (rq (v)).1,.string (rq (v)).2.1,.string (rq (v)).2.2]] W fun e w'=>e=.returned (.bool true)/\Below W.heap.size W w'):=fun W hW=>by have h:=BS (1) (v) s1.o aK.o W hW;rw[zG h1v]at h;exact h
     have aU:=zh (a6.o ⟨fun _=>⟨fun _=>by rw[<-hv.o];exact h1v,fun h=>absurd hm h⟩,fun h=>(by cases h)⟩);replace h1v:=zh h1v;replace hm:=zh hm;refine AT (by kernel_rfl) (by kernel_rfl) ?_
     repeat (
      with_reducible refine wI (fun K hK=>?_)
      first
       |(refine BU (by rfl) ?_;refine hK _ ?_;clear hK K;(try simp only[Act.put,zA,zD,zC]))
       |(refine BV (by rfl) ?_
         go_simp;apply Exists.intro;refine⟨fun W hW=>?_,hK _ ?_⟩
         first
          |(with_reducible exact AA hW (kl.o W (ak.o W hW)))
          |(with_reducible exact AA hW (ai.o W hW))
          |(obtain⟨q1,q2,q3,q4,q5,q6,q7⟩:=HS.o W hW;go_simp<;>with_reducible rfl)
         clear hK K))
     refine wU ?_;intro wf ae;have aV:Hid (Below w4.heap.size w4 wf):=ah.o.trans (ae.mono ah.o.size);clear ae HS ak ai;go_wp2;exact⟨⟨p+1,by omega,by go_num,aU,aV⟩,by simp only[intOf];omega⟩
    |false=>
     have hm:p∉toN F:=fun h=>by have:=bc.o.2 h;cases this
     by_cases h1v:sm<=v
     rotate_left
     .skip
      have kl:Hid (∀W,Env W->Calls prog 54 #[.agg #[.bool (rq (sm)).1,.string (rq (sm)).2.1,.string (rq (sm)).2.2],.agg #[.bool (rq (v)).1,.string (rq (v)).2.1,.string (rq (v)).2.2]] W fun e w'=>e=.returned (.bool false)/\Below W.heap.size W w'):=fun W hW=>by have h:=BS (sm) (v) a1.o aK.o W hW;rw[zH h1v]at h;exact h
      have af:Hid (¬Chk s F true V R):=aT.o fun h=>h1v (by rw[hv.o,aJ.o];exact(h.1 rfl).2 hm);replace h1v:=zh h1v;replace hm:=zh hm;refine AT (by kernel_rfl) (by kernel_rfl) ?_
      repeat (
       with_reducible refine wI (fun K hK=>?_)
       first
        |(refine BU (by rfl) ?_;refine hK _ ?_;clear hK K;(try simp only[Act.put,zA,zD,zC]))
        |(refine BV (by rfl) ?_
          go_simp;apply Exists.intro;refine⟨fun W hW=>?_,hK _ ?_⟩
          first
           |(with_reducible exact AA hW (kl.o W (ak.o W hW)))
           |(with_reducible exact AA hW (ai.o W hW))
           |(obtain⟨q1,q2,q3,q4,q5,q6,q7⟩:=HS.o W hW;go_simp<;>with_reducible rfl)
          clear hK K))
      refine wU ?_;intro wf ae;have av:=au.o.trans (ae.mono au.o.size);replace av:=zh av;clear ae HS ak ai;go_wp2
      (try rw[yN])
      exact⟨_,xO rfl _ _ _,aD.o af.o _ _ rfl av.o⟩
     skip
     have kl:Hid (∀W,Env W->Calls prog 54 #[.agg #[.bool (rq (sm)).1,.string (rq (sm)).2.1,.string (rq (sm)).2.2],.agg #[.bool (rq (v)).1,.string (rq (v)).2.1,.string (rq (v)).2.2]] W fun e w'=>e=.returned (.bool true)/\Below W.heap.size W w'):=fun W hW=>by have h:=BS (sm) (v) a1.o aK.o W hW;rw[zG h1v]at h;exact h
     have aU:=zh (a6.o ⟨fun _=>⟨fun h=>absurd h hm,fun _=>by rw[<-hv.o,<-aJ.o];exact h1v⟩,fun h=>(by cases h)⟩);replace h1v:=zh h1v;replace hm:=zh hm;refine AT (by kernel_rfl) (by kernel_rfl) ?_
     repeat (
      with_reducible refine wI (fun K hK=>?_)
      first
       |(refine BU (by rfl) ?_;refine hK _ ?_;clear hK K;(try simp only[Act.put,zA,zD,zC]))
       |(refine BV (by rfl) ?_
         go_simp;apply Exists.intro;refine⟨fun W hW=>?_,hK _ ?_⟩
         first
          |(with_reducible exact AA hW (kl.o W (ak.o W hW)))
          |(with_reducible exact AA hW (ai.o W hW))
          |(obtain⟨q1,q2,q3,q4,q5,q6,q7⟩:=HS.o W hW;go_simp<;>with_reducible rfl)
         clear hK K))
     refine wU ?_;intro wf ae;have aV:Hid (Below w4.heap.size w4 wf):=ah.o.trans (ae.mono ah.o.size);clear ae HS ak ai;go_wp2;exact⟨⟨p+1,by omega,by go_num,aU,aV⟩,by simp only[intOf];omega⟩
   skip
   obtain rfl:p=s.ps.length:=by omega
   have be:=zh (aS.o.1 hI.o);go_wp2
   (try rw[yN])
   exact⟨_,xO rfl _ _ _,ChkPost.yes be.o rfl aF.o⟩
theorem Mp(s:SR)(Ap Ac Av Af Aw Ar:Option Addr)(cp cc cv cf cw cr:Nat)(F:List Int)(V:List Raw)(R:List Int)(w:World)(hE:Env w)(hs:StIn w s Ap Ac Av)(bb:s.cap.length<=300)(hF:InInt w Af F)(bE:F.length<=140737488355328)
 (hV:InRow w Aw V)(b9:V.length<=140737488355328)(bm:∀k (h:k<V.length),V[k].2.1.size<=140737488355328/\V[k].2.2.size<=140737488355328)(hR:InInt w Ar R)(cj:R.length<=140737488355328):
 Calls prog 17 #[.agg #[.slice Ap s.ps.length cp,.slice Ac s.cap.length cc,.slice Av s.vot.length cv],.slice Af F.length cf,.agg #[.bool false,.slice Aw V.length cw,.slice Ar R.length cr]] w (ChkPost s F false V R w):=by
 have au:=zh (fun(h:¬Chk s F false V R) (e:Ending) (w':World) (he:e=.returned (.bool false)) (hb:Below w.heap.size w w')=>ChkPost.no' h he hb);obtain⟨w0,ai⟩:∃X,X=((w.alloc (.cells #[.slice Ap s.ps.length cp,.slice Ac s.cap.length cc,.slice Av s.vot.length cv] 32)).alloc (.cells #[.bool false,.slice Aw V.length cw,.slice Ar R.length cr] 53)):=⟨_,rfl⟩;have aw:Hid (Below w.heap.size w w0):=by rw[ai];exact((zI _ w).alloc (zB _) _).alloc (by simp) _
 have aH:Hid (Bk w0 w.heap.size 32 [.slice Ap s.ps.length cp,.slice Ac s.cap.length cc,.slice Av s.vot.length cv]):=by rw[ai];exact(Bk.new w _ _).alloc _
 have aG:Hid (Bk w0 (w.heap.size+1) 53 [.bool false,.slice Aw V.length cw,.slice Ar R.length cr]):=by
  rw[ai];have h:=Bk.new (w.alloc (.cells #[.slice Ap s.ps.length cp,.slice Ac s.cap.length cc,.slice Av s.vot.length cv] 32)) 53 [.bool false,.slice Aw V.length cw,.slice Ar R.length cr];rw[zV]at h;exact h
 have kr:=zh (Fs s Ap Ac Av Af cp cc cv cf F w0 (hE.below aw.o) (hs.below aw.o) bb (hF.below aw.o) bE);have cn:=hs.np;replace hE:=zh hE;replace hs:=zh hs;replace hF:=zh hF;replace hV:=zh hV;replace bm:=zh bm;replace hR:=zh hR;have u0:=aH.o.c0;have u1:=aH.o.c1;have u2:=aH.o.c2;have u9:=aH.o.lt;have v0:=aG.o.c0;have v1:=aG.o.c1;have v2:=aG.o.c2;have v9:=aG.o.lt
 by_cases hg:Ak s=true/\AZ s.ps.length F=true
 rotate_left
 .skip
  have ad:Hid (¬Chk s F false V R):=fun h=>hg h.1;have aN:Hid (Calls prog 35 #[.agg #[.slice Ap s.ps.length cp,.slice Ac s.cap.length cc,.slice Av s.vot.length cv],.slice Af F.length cf] w0 fun e w'=>e=.returned (.tuple #[.slice none 0 0,.int .i64 1])/\Below w0.heap.size w0 w'):=kr.o.mono fun e w' h=>⟨by have h1:=h.1;rw[zE hg]at h1;exact h1,h.2⟩;replace hg:=zh hg;clear kr;refine(wJ (n:=3)).1 ?_;refine xW func17 rfl trivial ?_ rfl;simp only[ntmps17,yq,zZ,yR,Nat.reduceAdd,Nat.reduceSub,yW,yX,yv,yj,yM,yY];refine wpIn_wide.2 ?_;rw[ai]at u0 u1 u2 u9 v0 v1 v2 v9;rw[ai]at aN;replace ai:=zh ai
  go_wp2_with fail
  go_step3
  go_wp2_with fail
  refine aN.o.q fun w1 hb=>?_;rw[<-ai.o]at hb;have aC:=aw.t hb;have an:=zh (aH.o.below hb);have am:=zh (aG.o.below hb);clear hb aN u0 u1 u2 u9 v0 v1 v2 v9;have u0:=an.o.c0;have u1:=an.o.c1;have u2:=an.o.c2;have u9:=an.o.lt;have v0:=am.o.c0;have v1:=am.o.c1;have v2:=am.o.c2;have v9:=am.o.lt;go_wp2
  (try rw[yN])
  exact⟨_,xO rfl _ _ _,au.o ad.o _ _ rfl aC.o⟩
 skip
 have aN:Hid (Calls prog 35 #[.agg #[.slice Ap s.ps.length cp,.slice Ac s.cap.length cc,.slice Av s.vot.length cv],.slice Af F.length cf] w0 fun e w'=>(∃b,e=.returned (.tuple #[.slice (some ⟨b,0,none⟩) s.ps.length s.ps.length,.int .i64 0]))/\Below w0.heap.size w0 w'):=kr.o.mono fun e w' h=>⟨by have h1:=h.1;rw[zF hg]at h1;obtain⟨b,e1,_⟩:=h1;exact⟨b,e1⟩,h.2⟩;replace hg:=zh hg;clear kr;refine(wJ (n:=3)).1 ?_;refine xW func17 rfl trivial ?_ rfl;simp only[ntmps17,yq,zZ,yR,Nat.reduceAdd,Nat.reduceSub,yW,yX,yv,yj,yM,yY];refine wpIn_wide.2 ?_;rw[ai]at u0 u1 u2 u9 v0 v1 v2 v9;rw[ai]at aN;replace ai:=zh ai
 go_wp2_with fail
 go_step3
 go_wp2_with fail
 refine aN.o.mono ?_;rintro e w1 ⟨⟨rb,rfl⟩,hb⟩;rw[<-ai.o]at hb;have aC:=aw.t hb;have an:=zh (aH.o.below hb);have am:=zh (aG.o.below hb);clear hb aN u0 u1 u2 u9 v0 v1 v2 v9 aw aH aG ai;have u0:=an.o.c0;have u1:=an.o.c1;have u2:=an.o.c2;have u9:=an.o.lt;have v0:=am.o.c0;have v1:=am.o.c1;have v2:=am.o.c2;have v9:=am.o.lt;have ks:=Dk s Ap Ac Av cp cc cv w1 (hE.o.below aC.o) (hs.o.below aC.o);rw[hg.o.1]at ks;replace ks:=zh ks
 go_wp2_with fail
 refine ks.o.q fun w2 hb=>?_;have aD:=aC.t hb;have bN:=zh (an.o.below hb);have aQ:=zh (am.o.below hb);clear hb ks u0 u1 u2 u9 v0 v1 v2 v9 aC an am;have v0:=aQ.o.c0;have v1:=aQ.o.c1;have v2:=aQ.o.c2;have v9:=aQ.o.lt
 by_cases hvl:V.length=s.ps.length
 rotate_left
 .skip
  have ad:Hid (¬Chk s F false V R):=fun h=>hvl h.2.1;have m1:((V.length:Int) != (s.ps.length:Int))=true:=by rw[zm];omega
  have m2:(V.length != s.ps.length)=true:=by rw[zm];exact hvl
  replace hvl:=zh hvl;go_wp2
  (try rw[yN])
  exact⟨_,xO rfl _ _ _,au.o ad.o _ _ rfl aD.o⟩
 skip
 have m1:((V.length:Int) != (s.ps.length:Int))=false:=by rw[zq];omega
 have m2:(V.length != s.ps.length)=false:=by rw[zq];exact hvl
 by_cases hrl:R.length=s.ps.length
 rotate_left
 .skip
  have ad:Hid (¬Chk s F false V R):=fun h=>hrl h.2.2.1;have m3:((R.length:Int) != (s.ps.length:Int))=true:=by rw[zm];omega
  have m4:(R.length != s.ps.length)=true:=by rw[zm];exact hrl
  replace hrl:=zh hrl;replace hvl:=zh hvl;go_wp2
  (try rw[yN])
  exact⟨_,xO rfl _ _ _,au.o ad.o _ _ rfl aD.o⟩
 skip
 have m3:((R.length:Int) != (s.ps.length:Int))=false:=by rw[zq];omega
 have m4:(R.length != s.ps.length)=false:=by rw[zq];exact hrl
 have kf:=LP Aw cw V w2 (hE.o.below aD.o) (hV.o.below aD.o (zB _)) b9 bm.o;obtain⟨fb,az⟩:∃b,b=Hk V:=⟨_,rfl⟩;rw[<-az]at kf;replace kf:=zh kf;replace hvl:=zh hvl;replace hrl:=zh hrl
 go_wp2_with fail
 refine kf.o.q fun w3 hb=>?_;have aq:=aD.t hb;have bj:=zh (bN.o.below hb);have aZ:=zh (aQ.o.below hb);clear hb kf v0 v1 v2 v9 aD bN aQ m1 m2 m3 m4
 cases fb with
 |false=>
  have ad:Hid (¬Chk s F false V R):=fun h=>by have h1:=h.2.2.2.1;rw[<-az]at h1;cases h1
  replace az:=zh az;go_wp2
  (try rw[yN])
  exact⟨_,xO rfl _ _ _,au.o ad.o _ _ rfl aq.o⟩
 |true=>
  have bO:=Ek az.symm;obtain⟨a3,D,aI⟩:=bO;rw[hvl.o]at a3;obtain⟨val,aA⟩:∃f,f=D4 V:=⟨_,rfl⟩;rw[<-aA]at a3 aI;have bU:=zh (fun p=>aI.short p);have cg:=zh (fun p=>Mj hg.o.1 bb aI p);have bk:Hid (InRow w Aw (B9 s.ps.length val)):=by have h:=hV.o;rw[a3]at h;exact h
  have be:Hid ((∀p,p<s.ps.length->DL (Ag s.cap) (toN F) false val (rnk R) p)<->Chk s F false V R):=⟨fun h=>⟨hg.o,hvl.o,hrl.o,az.symm,by rw[<-aA];exact h⟩,fun h=>by rw[aA];exact h.2.2.2.2⟩;have ksum:Hid (∀(p:Nat) W,Below w3.heap.size w3 W->Calls prog 49 #[.int .i64 (p:Int),.pointer (some ⟨w.heap.size,0,none⟩),.pointer (some ⟨w.heap.size+1,0,none⟩)] W fun e w'=>e=.returned (.agg #[.bool (rq (Ao p val (Ag s.cap))).1,.string (rq (Ao p val (Ag s.cap))).2.1,.string (rq (Ao p val (Ag s.cap))).2.2])/\Below W.heap.size W w'):=fun p W h=>Mh s Ap Ac Av Aw Ar cp cc cv cw cr R.length false w.heap.size (w.heap.size+1) p val W (hE.o.below (aq.o.trans (h.mono aq.o.size))) (hs.o.below (aq.o.trans (h.mono aq.o.size))).cap hg.o.1 bb (bk.o.below (aq.o.trans (h.mono aq.o.size)) (zB _)) (fun q _=>bU.o q) (fun i hi=>(KR hg.o.1 aI hi).2.2.2) (fun pre hp=>FU hg.o.1 bb aI pre hp) (bj.o.below h) (by have h2:=aZ.o.below h;rw[hvl.o]at h2;exact h2);replace a3:=zh a3;replace aI:=zh aI;replace aA:=zh aA;replace az:=zh az;have v1:=aZ.o.c1;have v9:=aZ.o.lt
  go_wp2_with fail
  go_step3
  go_wp2_with fail
  rw[hvl.o];have bw:=zh hg.o.1;have bu:s.cap.length<=140737488355328:=by omega
  have bA:Hid (([.bool false,.string ⟨#[49]⟩,.string ⟨#[49]⟩]:List Value)=[.bool (rq (1)).1,.string (rq (1)).2.1,.string (rq (1)).2.2]):=zh (by kernel_rfl);obtain⟨ob,bd⟩:∃x,x=w3.heap.size:=⟨_,rfl⟩;obtain⟨w4,aT⟩:∃X,X=w3.alloc (.cells #[.bool false,.string ⟨#[49]⟩,.string ⟨#[49]⟩] 48):=⟨_,rfl⟩;have bB:Hid (Below w.heap.size w w4):=by rw[aT];exact aq.o.alloc aq.o.size _
  have aP:Hid (Below w3.heap.size w3 w4):=by rw[aT];exact(zI _ _).alloc (zB _) _
  have b4:Hid (Bk w4 ob 48 [.bool (rq (1)).1,.string (rq (1)).2.1,.string (rq (1)).2.2]):=by rw[aT,bd,<-bA.o];exact Bk.new _ _ _
  have bM:=zh (aZ.o.below aP.o);have b7:=zh (bj.o.below aP.o);rw[<-aT,<-bd];replace aT:=zh aT;replace bd:=zh bd;clear v1 v9 aZ bj aq bA;have bF:Hid (∀j,j<0->DL (Ag s.cap) (toN F) false val (rnk R) j):=fun j h=>absurd h (yB _);have bG:Hid (Below w4.heap.size w4 w4):=zI _ _;have bY:Hid (∀y,y∈F->0<=y):=fun y hy=>by obtain⟨i,hi,rfl⟩:=zi hy;exact(D6 hg.o.2 hi).1.1
  have bt:Hid (∀p:Nat,p∈toN F<->(p:Int)∈F):=fun p=>by
   unfold toN;rw[vR];exact⟨fun⟨y,hy,e⟩=>by rw[<-e,Int.toNat_of_nonneg (bY.o y hy)];exact hy,fun h=>⟨(p:Int),h,by simp⟩⟩
  have s1:Hid (ShortQ 1):=⟨zJ (by decide:1<6000) (xF Q8),zJ (by decide:1<6000) (xF Q8)⟩;have bK:Hid (Mk w.heap.size [] w4):=Mk.nil;refine wp_loop (fun(a':Act) (wr:World)=>∃(p:Nat)(Ds:List Nat)(u13 u14 u15 u16 u17 u18 u19 u20 u21 u22 u23 u24 u25 u26 u27 u28 u29 u30 u31 u32 u33 u34 u35 u36 u37 u38 u39 u40 u41 u42 u43 u44 u45 u46 u47 u48 u49 u50 u51 u52 u53 u54 u55 u56 u57 u58 u59 u63 u64 u65 u66 u67 u68 u69 u70 u71 u72 u73 u74 u75 u76 u77 u78 u79 u80 u81 u82 u83 u84 u85 u86 u87 u88 u89 u90 u91 u92 u93 u94 u95 u96 u97 u98 u99 u100 u101 u102 u103 u104 u105 u106 u107 u108 u109 u110 u111 u112 u113 u114 u115 u116 u117 u118 u119 u120 u121 u122 u123 u124 u125 u126 u127 u128 u129 u130 u131 u132 u133 u134 u135 u136 u137 u138 u139 u140 u141 u142 u143 u144 u145 u146 u147 u148 u149 u150 u151 u152 u153 u154 u155 u156 u157 u158 u159 u160 u161:Value),p<=s.ps.length/\Hid (∀j,j<p->DL (Ag s.cap) (toN F) false val (rnk R) j)/\Hid (Below w4.heap.size w4 wr)/\Hid (Mk w.heap.size Ds wr)/\a'={ tmps:=#[.agg #[.slice Ap s.ps.length cp,.slice Ac s.cap.length cc,.slice Av s.vot.length cv],.slice Af F.length cf,.agg #[.bool false,.slice Aw s.ps.length cw,.slice Ar R.length cr],.pointer (some ⟨w.heap.size,0,none⟩),undef,.pointer (some ⟨w.heap.size+1,0,none⟩),.bool false,.int .i64 (s.ps.length:Int),.int .i64 (s.ps.length:Int),.slice (some ⟨rb,0,none⟩) s.ps.length s.ps.length,.int .i64 0,.pointer (some ⟨ob,0,none⟩),.func (.func 49) #[] #[.pointer (some ⟨w.heap.size,0,none⟩),.pointer (some ⟨w.heap.size+1,0,none⟩)],u13,u14,u15,u16,u17,u18,u19,u20,u21,u22,u23,u24,u25,u26,u27,u28,u29,u30,u31,u32,u33,u34,u35,u36,u37,u38,u39,u40,u41,u42,u43,u44,u45,u46,u47,u48,u49,u50,u51,u52,u53,u54,u55,u56,u57,u58,u59,.slice Aw s.ps.length cw,.int .i64 (s.ps.length:Int),.int .i64 (p:Int),u63,u64,u65,u66,u67,u68,u69,u70,u71,u72,u73,u74,u75,u76,u77,u78,u79,u80,u81,u82,u83,u84,u85,u86,u87,u88,u89,u90,u91,u92,u93,u94,u95,u96,u97,u98,u99,u100,u101,u102,u103,u104,u105,u106,u107,u108,u109,u110,u111,u112,u113,u114,u115,u116,u117,u118,u119,u120,u121,u122,u123,u124,u125,u126,u127,u128,u129,u130,u131,u132,u133,u134,u135,u136,u137,u138,u139,u140,u141,u142,u143,u144,u145,u146,u147,u148,u149,u150,u151,u152,u153,u154,u155,u156,u157,u158,u159,u160,u161],defers:=mkD Ds }) (fun a' _=>s.ps.length-(intOf (a'.tmps.getD 62 undef)).toNat) ?_ ?_
  .refine⟨0,[],?_⟩
   (repeat apply Exists.intro)
   refine⟨?_,?_,?_,?_,rfl⟩
   all_goals first|exact zS _|exact bF|exact bG|exact bK
  intro a0 wr d;obtain⟨p,d⟩:=d;obtain⟨Ds,d⟩:=d;obtain⟨u13,d⟩:=d;obtain⟨u14,d⟩:=d;obtain⟨u15,d⟩:=d;obtain⟨u16,d⟩:=d;obtain⟨u17,d⟩:=d;obtain⟨u18,d⟩:=d;obtain⟨u19,d⟩:=d;obtain⟨u20,d⟩:=d;obtain⟨u21,d⟩:=d;obtain⟨u22,d⟩:=d;obtain⟨u23,d⟩:=d;obtain⟨u24,d⟩:=d;obtain⟨u25,d⟩:=d;obtain⟨u26,d⟩:=d;obtain⟨u27,d⟩:=d;obtain⟨u28,d⟩:=d;obtain⟨u29,d⟩:=d;obtain⟨u30,d⟩:=d;obtain⟨u31,d⟩:=d;obtain⟨u32,d⟩:=d;obtain⟨u33,d⟩:=d;obtain⟨u34,d⟩:=d;obtain⟨u35,d⟩:=d;obtain⟨u36,d⟩:=d;obtain⟨u37,d⟩:=d;obtain⟨u38,d⟩:=d;obtain⟨u39,d⟩:=d;obtain⟨u40,d⟩:=d;obtain⟨u41,d⟩:=d;obtain⟨u42,d⟩:=d;obtain⟨u43,d⟩:=d;obtain⟨u44,d⟩:=d;obtain⟨u45,d⟩:=d;obtain⟨u46,d⟩:=d;obtain⟨u47,d⟩:=d;obtain⟨u48,d⟩:=d;obtain⟨u49,d⟩:=d;obtain⟨u50,d⟩:=d;obtain⟨u51,d⟩:=d;obtain⟨u52,d⟩:=d;obtain⟨u53,d⟩:=d;obtain⟨u54,d⟩:=d;obtain⟨u55,d⟩:=d;obtain⟨u56,d⟩:=d;obtain⟨u57,d⟩:=d;obtain⟨u58,d⟩:=d;obtain⟨u59,d⟩:=d;obtain⟨u63,d⟩:=d;obtain⟨u64,d⟩:=d;obtain⟨u65,d⟩:=d;obtain⟨u66,d⟩:=d;obtain⟨u67,d⟩:=d;obtain⟨u68,d⟩:=d;obtain⟨u69,d⟩:=d;obtain⟨u70,d⟩:=d;obtain⟨u71,d⟩:=d;obtain⟨u72,d⟩:=d;obtain⟨u73,d⟩:=d;obtain⟨u74,d⟩:=d;obtain⟨u75,d⟩:=d;obtain⟨u76,d⟩:=d;obtain⟨u77,d⟩:=d;obtain⟨u78,d⟩:=d;obtain⟨u79,d⟩:=d;obtain⟨u80,d⟩:=d;obtain⟨u81,d⟩:=d;obtain⟨u82,d⟩:=d;obtain⟨u83,d⟩:=d;obtain⟨u84,d⟩:=d;obtain⟨u85,d⟩:=d;obtain⟨u86,d⟩:=d;obtain⟨u87,d⟩:=d;obtain⟨u88,d⟩:=d;obtain⟨u89,d⟩:=d;obtain⟨u90,d⟩:=d;obtain⟨u91,d⟩:=d;obtain⟨u92,d⟩:=d;obtain⟨u93,d⟩:=d;obtain⟨u94,d⟩:=d;obtain⟨u95,d⟩:=d;obtain⟨u96,d⟩:=d;obtain⟨u97,d⟩:=d;obtain⟨u98,d⟩:=d;obtain⟨u99,d⟩:=d;obtain⟨u100,d⟩:=d;obtain⟨u101,d⟩:=d;obtain⟨u102,d⟩:=d;obtain⟨u103,d⟩:=d;obtain⟨u104,d⟩:=d;obtain⟨u105,d⟩:=d;obtain⟨u106,d⟩:=d;obtain⟨u107,d⟩:=d;obtain⟨u108,d⟩:=d;obtain⟨u109,d⟩:=d;obtain⟨u110,d⟩:=d;obtain⟨u111,d⟩:=d;obtain⟨u112,d⟩:=d;obtain⟨u113,d⟩:=d;obtain⟨u114,d⟩:=d;obtain⟨u115,d⟩:=d;obtain⟨u116,d⟩:=d;obtain⟨u117,d⟩:=d;obtain⟨u118,d⟩:=d;obtain⟨u119,d⟩:=d;obtain⟨u120,d⟩:=d;obtain⟨u121,d⟩:=d;obtain⟨u122,d⟩:=d;obtain⟨u123,d⟩:=d;obtain⟨u124,d⟩:=d;obtain⟨u125,d⟩:=d;obtain⟨u126,d⟩:=d;obtain⟨u127,d⟩:=d;obtain⟨u128,d⟩:=d;obtain⟨u129,d⟩:=d;obtain⟨u130,d⟩:=d;obtain⟨u131,d⟩:=d;obtain⟨u132,d⟩:=d;obtain⟨u133,d⟩:=d;obtain⟨u134,d⟩:=d;obtain⟨u135,d⟩:=d;obtain⟨u136,d⟩:=d;obtain⟨u137,d⟩:=d;obtain⟨u138,d⟩:=d;obtain⟨u139,d⟩:=d;obtain⟨u140,d⟩:=d;obtain⟨u141,d⟩:=d;obtain⟨u142,d⟩:=d;obtain⟨u143,d⟩:=d;obtain⟨u144,d⟩:=d;obtain⟨u145,d⟩:=d;obtain⟨u146,d⟩:=d;obtain⟨u147,d⟩:=d;obtain⟨u148,d⟩:=d;obtain⟨u149,d⟩:=d;obtain⟨u150,d⟩:=d;obtain⟨u151,d⟩:=d;obtain⟨u152,d⟩:=d;obtain⟨u153,d⟩:=d;obtain⟨u154,d⟩:=d;obtain⟨u155,d⟩:=d;obtain⟨u156,d⟩:=d;obtain⟨u157,d⟩:=d;obtain⟨u158,d⟩:=d;obtain⟨u159,d⟩:=d;obtain⟨u160,d⟩:=d;obtain⟨u161,d⟩:=d;obtain⟨hp,hI,hK,hM,ha⟩:=d;subst ha;clear bK;clear bF bG;obtain⟨wz,rfl⟩:∃z,z=wr:=⟨_,rfl⟩;have aU:=zh (bB.o.trans (hK.o.mono bB.o.size));have bf:=zh (aP.o.trans (hK.o.mono aP.o.size))
  by_cases hpn:p<s.ps.length
  .skip
   have a7:Hid (DL (Ag s.cap) (toN F) false val (rnk R) p->∀j,j<p+1->DL (Ag s.cap) (toN F) false val (rnk R) j):=fun h j hj=>by
    by_cases c:j=p
    .subst c;exact h
    exact hI.o j (by omega)
   have ap:Hid (¬DL (Ag s.cap) (toN F) false val (rnk R) p->¬Chk s F false V R):=fun h h2=>h (be.o.2 h2 p hpn);obtain⟨ab,ao,rfl,al,ac⟩:=(bk.o.below aU.o (zB _)) (by rw[Au];omega);obtain⟨e0,e1,e2⟩:=ac p (by rw[Au];omega);rw[BN]at e0 e1 e2;clear ac;have j0:(0:Int)<=(p:Int):=by omega
   have j1:(p:Int)<(s.ps.length:Int):=by omega
   obtain⟨w6,aB⟩:∃X,X=((wz.alloc (.cells #[.int .i64 (p:Int)] 3)).alloc (.cells #[.bool (rq (val p)).1,.string (rq (val p)).2.1,.string (rq (val p)).2.2] 48)):=⟨_,rfl⟩;obtain⟨ib,aR⟩:∃x,x=wz.heap.size:=⟨_,rfl⟩;have ax:Hid (Below wz.heap.size wz w6):=by rw[aB];exact((zI _ wz).alloc (zB _) _).alloc (by simp) _
   have a9:Hid (Bk w6 ib 3 [.int .i64 (p:Int)]):=by rw[aB,aR];exact(Bk.new wz _ _).alloc _
   have a2:Hid (Bk w6 (ib+1) 48 [.bool (rq (val p)).1,.string (rq (val p)).2.1,.string (rq (val p)).2.2]):=by
    rw[aB,aR];have h:=Bk.new (wz.alloc (.cells #[.int .i64 (p:Int)] 3)) 48 [.bool (rq (val p)).1,.string (rq (val p)).2.1,.string (rq (val p)).2.2];rw[zV]at h;exact h
   have ae:=zh (aU.o.trans (ax.o.mono aU.o.size));have ag:=zh (hK.o.trans (ax.o.mono hK.o.size));have aW:=zh (bf.o.trans (ax.o.mono bf.o.size));have aY:=zh (b4.o.below ag.o);have a1:=zh (bM.o.below ag.o);have kc:=Dd Af cf F (p:Int) w6 (hF.o.below ae.o) bE;have bs:=bt.o p;obtain⟨mb,bc⟩:∃b,b=decide ((p:Int)∈F):=⟨_,rfl⟩;rw[<-bc]at kc;rw[aB]at kc;replace kc:=zh kc;have bS:Hid (mb=true<->p∈toN F):=by rw[bc,ye];exact bs.symm
   replace bc:=zh bc;replace aB:=zh aB;replace aR:=zh aR;replace bs:=zh bs
   go_wp2_with fail
   refine kc.o.q fun wq hq=>?_;rw[<-aB.o]at hq;obtain rfl:=hq
   (try rw[<-aR.o])
   clear kc e0 e1 e2 al hI bf aU hK aB aR;have o0:=aY.o.c0;have o1:=aY.o.c1;have o2:=aY.o.c2;have o9:=aY.o.lt;have x0:=a2.o.c0;have x1:=a2.o.c1;have x2:=a2.o.c2;have x9:=a2.o.lt;have y0:=a9.o.c0;have y9:=a9.o.lt;have f0:=a1.o.c0;have f1:=a1.o.c1;have f2:=a1.o.c2;have f9:=a1.o.lt;have aF:Hid (∀W,Below wq.heap.size wq W->Env W):=fun W h=>hE.o.below (ae.o.trans (h.mono ae.o.size));have aO:Hid (∀W,Below wq.heap.size wq W->Calls prog 49 #[.int .i64 (p:Int),.pointer (some ⟨w.heap.size,0,none⟩),.pointer (some ⟨w.heap.size+1,0,none⟩)] W fun e w'=>e=.returned (.agg #[.bool (rq (Ao p val (Ag s.cap))).1,.string (rq (Ao p val (Ag s.cap))).2.1,.string (rq (Ao p val (Ag s.cap))).2.2])/\Below W.heap.size W w'):=fun W h=>ksum.o p W (aW.o.trans (h.mono aW.o.size));have a6:=zh (bU.o p);have aL:=zh (cg.o p);obtain⟨sm,a5⟩:∃q,q=Ao p val (Ag s.cap):=⟨_,rfl⟩;rw[<-a5]at aO aL;replace a5:=zh a5;obtain⟨v,hv⟩:∃q,q=val p:=⟨_,rfl⟩;rw[<-hv]at x0 x1 x2 a6;replace hv:=zh hv;have HS:Hid (∀W,Below wq.heap.size wq W->(fun W=>W.cell? ⟨ob,0,none⟩=some (.bool (rq (1)).1)/\W.cell? ⟨ob,1,none⟩=some (.string (rq (1)).2.1)/\W.cell? ⟨ob,2,none⟩=some (.string (rq (1)).2.2)/\W.cell? ⟨ib+1,0,none⟩=some (.bool (rq (v)).1)/\W.cell? ⟨ib+1,1,none⟩=some (.string (rq (v)).2.1)/\W.cell? ⟨ib+1,2,none⟩=some (.string (rq (v)).2.2)/\W.cell? ⟨ib,0,none⟩=some (.int .i64 (p:Int))) W):=fun W h=>⟨(h.cell (p:=⟨ob,0,none⟩) o9).trans o0,(h.cell (p:=⟨ob,1,none⟩) o9).trans o1,(h.cell (p:=⟨ob,2,none⟩) o9).trans o2,(h.cell (p:=⟨ib+1,0,none⟩) x9).trans x0,(h.cell (p:=⟨ib+1,1,none⟩) x9).trans x1,(h.cell (p:=⟨ib+1,2,none⟩) x9).trans x2,(h.cell (p:=⟨ib,0,none⟩) y9).trans y0⟩;have av:Hid (Mk w.heap.size Ds wq):=hM.o.below ax.o;clear hM ax;obtain⟨rkb,rko,rfl,rkl,rkc⟩:=(hR.o.below ae.o) (by rw[hrl.o];omega);have r0:=rkc p (by rw[hrl.o];exact hpn);have bT:Hid (rnk R p=R[p]'(by rw[hrl.o];exact hpn)):=by unfold rnk;rw[yH,ze (by rw[hrl.o];exact hpn)];rfl
   obtain⟨rp,ah⟩:∃x,x=rnk R p:=⟨_,rfl⟩;rw[<-bT.o,<-ah]at r0;replace ah:=zh ah;have ct:(p:Int)<(R.length:Int):=by rw[hrl.o];omega
   have z:=Mo v
   by_cases hv0:v=0
   .skip
    rw[zG hv0]at z;have aa:val p=0:=by rw[<-hv.o];exact hv0
    replace hv0:=zh hv0
    by_cases hr1:rp=-1
    rotate_left
    .skip
     have m1:(rp != -1)=true:=by rw[zm];exact hr1
     have ad:Hid (¬Chk s F false V R):=ap.o fun h=>hr1 (by rw[ah.o];exact(h.2 rfl).1 aa);replace hr1:=zh hr1;replace aa:=zh aa;go_wp2
     (try rw[yN])
     exact Bu (zB _) (Ds) _ av.o ae.o (fun W2 aj _=>⟨_,xO rfl _ _ _,au.o ad.o _ _ rfl aj⟩)
    skip
    have m1:(rp != -1)=false:=by rw[zq];exact hr1
    have aV:=zh (a7.o ⟨fun h=>(by cases h),fun _=>⟨fun _=>by rw[<-ah.o];exact hr1,fun h=>absurd aa h,fun h=>absurd aa h⟩⟩);replace hr1:=zh hr1;replace aa:=zh aa;go_wp2;exact⟨⟨p+1,Ds,_,_,_,_,_,_,_,_,_,_,_,_,_,_,_,_,_,_,_,_,_,_,_,_,_,_,_,_,_,_,_,_,_,_,_,_,_,_,_,_,_,_,_,_,_,_,_,_,_,_,_,_,_,_,_,_,_,_,_,_,_,_,_,_,_,_,_,_,_,_,_,_,_,_,_,_,_,_,_,_,_,_,_,_,_,_,_,_,_,_,_,_,_,_,_,_,_,_,_,_,_,_,_,_,_,_,_,_,_,_,_,_,_,_,_,_,_,_,_,_,_,_,_,_,_,_,_,_,_,_,_,_,_,_,_,_,_,_,_,_,_,_,_,_,_,_,by omega,aV,ag,av,by go_num⟩,by simp[intOf];omega⟩
   skip
   rw[zH hv0]at z;have aa:val p≠0:=by rw[<-hv.o];exact hv0
   replace hv0:=zh hv0
   cases mb with
   |true=>
    have hm:=bS.o.1 rfl
    by_cases hr1:rp=0
    rotate_left
    .skip
     have m1:(rp != 0)=true:=by rw[zm];exact hr1
     have ad:Hid (¬Chk s F false V R):=ap.o fun h=>hr1 (by rw[ah.o];exact((h.2 rfl).2.1 aa hm).1);replace hr1:=zh hr1;replace aa:=zh aa;replace hm:=zh hm;go_wp2
     (try rw[yN])
     exact Bu (zB _) (Ds) _ av.o ae.o (fun W2 aj _=>⟨_,xO rfl _ _ _,au.o ad.o _ _ rfl aj⟩)
    skip
    have m1:(rp != 0)=false:=by rw[zq];exact hr1
    by_cases h1v:v<=1
    rotate_left
    .skip
     have kl:Hid (∀W,Env W->Calls prog 54 #[.agg #[.bool (rq (v)).1,.string (rq (v)).2.1,.string (rq (v)).2.2],.agg #[.bool (rq (1)).1,.string (rq (1)).2.1,.string (rq (1)).2.2]] W fun e w'=>e=.returned (.bool false)/\Below W.heap.size W w'):=fun W hW=>by have h:=BS (v) (1) a6.o s1.o W hW;rw[zH h1v]at h;exact h
     have ad:Hid (¬Chk s F false V R):=ap.o fun h=>h1v (by rw[hv.o];exact((h.2 rfl).2.1 aa hm).2);replace h1v:=zh h1v;replace hr1:=zh hr1;replace aa:=zh aa;replace hm:=zh hm
     go_wp2_with fail
     refine(kl.o _ (aF.o _ (zI _ _))).q fun w7 hb=>?_;have bC:=ae.t hb;have bJ:=ag.t hb;have bg:=zh (av.o.below hb);clear hb kl o0 o1 o2 o9 x0 x1 x2 x9 y0 y9 f0 f1 f2 f9 r0 rkl rkc;go_wp2
     (try rw[yN])
     exact Bu (zB _) (Ds) _ bg.o bC.o (fun W2 aj _=>⟨_,xO rfl _ _ _,au.o ad.o _ _ rfl aj⟩)
    skip
    have kl:Hid (∀W,Env W->Calls prog 54 #[.agg #[.bool (rq (v)).1,.string (rq (v)).2.1,.string (rq (v)).2.2],.agg #[.bool (rq (1)).1,.string (rq (1)).2.1,.string (rq (1)).2.2]] W fun e w'=>e=.returned (.bool true)/\Below W.heap.size W w'):=fun W hW=>by have h:=BS (v) (1) a6.o s1.o W hW;rw[zG h1v]at h;exact h
    have aV:=zh (a7.o ⟨fun h=>(by cases h),fun _=>⟨fun h=>absurd h aa,fun _ _=>⟨by rw[<-ah.o];exact hr1,by rw[<-hv.o];exact h1v⟩,fun _ h=>absurd hm h⟩⟩);replace h1v:=zh h1v;replace hr1:=zh hr1;replace aa:=zh aa;replace hm:=zh hm
    go_wp2_with fail
    refine(kl.o _ (aF.o _ (zI _ _))).q fun w7 hb=>?_;have bC:=ae.t hb;have bJ:=ag.t hb;have bg:=zh (av.o.below hb);clear hb kl o0 o1 o2 o9 x0 x1 x2 x9 y0 y9 f0 f1 f2 f9 r0 rkl rkc;go_wp2;exact⟨⟨p+1,Ds,_,_,_,_,_,_,_,_,_,_,_,_,_,_,_,_,_,_,_,_,_,_,_,_,_,_,_,_,_,_,_,_,_,_,_,_,_,_,_,_,_,_,_,_,_,_,_,_,_,_,_,_,_,_,_,_,_,_,_,_,_,_,_,_,_,_,_,_,_,_,_,_,_,_,_,_,_,_,_,_,_,_,_,_,_,_,_,_,_,_,_,_,_,_,_,_,_,_,_,_,_,_,_,_,_,_,_,_,_,_,_,_,_,_,_,_,_,_,_,_,_,_,_,_,_,_,_,_,_,_,_,_,_,_,_,_,_,_,_,_,_,_,_,_,_,_,by omega,aV,bJ,bg,by go_num⟩,by simp[intOf];omega⟩
   |false=>
    have hm:p∉toN F:=fun h=>by have:=bS.o.2 h;cases this
    have HS2:Hid (∀W,Below wq.heap.size wq W->(fun W=>W.cell? ⟨ob,0,none⟩=some (.bool (rq (1)).1)/\W.cell? ⟨ob,1,none⟩=some (.string (rq (1)).2.1)/\W.cell? ⟨ob,2,none⟩=some (.string (rq (1)).2.2)/\W.cell? ⟨ib+1,0,none⟩=some (.bool (rq (v)).1)/\W.cell? ⟨ib+1,1,none⟩=some (.string (rq (v)).2.1)/\W.cell? ⟨ib+1,2,none⟩=some (.string (rq (v)).2.2)/\W.cell? ⟨ib,0,none⟩=some (.int .i64 (p:Int))/\W.cell? ⟨w.heap.size+1,2,none⟩=some (.slice (some ⟨rkb,rko,none⟩) R.length cr)/\W.cell? ⟨rkb,rko+p,none⟩=some (.int .i64 rp)) W):=fun W h=>⟨(h.cell (p:=⟨ob,0,none⟩) o9).trans o0,(h.cell (p:=⟨ob,1,none⟩) o9).trans o1,(h.cell (p:=⟨ob,2,none⟩) o9).trans o2,(h.cell (p:=⟨ib+1,0,none⟩) x9).trans x0,(h.cell (p:=⟨ib+1,1,none⟩) x9).trans x1,(h.cell (p:=⟨ib+1,2,none⟩) x9).trans x2,(h.cell (p:=⟨ib,0,none⟩) y9).trans y0,(h.cell (p:=⟨w.heap.size+1,2,none⟩) f9).trans f2,(h.cell (p:=⟨rkb,rko+p,none⟩) rkl).trans r0⟩;clear HS
    by_cases hr1:rp<1
    .skip
     have m1:decide (rp<1)=true:=zG hr1;have ad:Hid (¬Chk s F false V R):=ap.o fun h=>by have h3:=((h.2 rfl).2.2 aa hm).1;rw[<-ah.o]at h3;omega
     replace hr1:=zh hr1;replace aa:=zh aa;replace hm:=zh hm
     go_wp2_with fail
     clear o0 o1 o2 o9 x0 x1 x2 x9 y0 y9 f0 f1 f2 f9 r0 rkl rkc;refine AT (by kernel_rfl) (by kernel_rfl) ?_
     repeat (
      with_reducible refine wI (fun K hK=>?_)
      first
       |(refine BU (by rfl) ?_;refine hK _ ?_;clear hK K;(try simp only[Act.put,zA,zD,zC]))
       |(refine BV (by rfl) ?_
         go_simp;apply Exists.intro;refine⟨fun W hW=>?_,hK _ ?_⟩
         first
          |(with_reducible exact AA hW (aO.o W hW))
          |(obtain⟨q1,q2,q3,q4,q5,q6,q7,q8,q9⟩:=HS2.o W hW;go_simp<;>with_reducible rfl)
         clear hK K))
     refine wU ?_;intro wf ak;have af:=ae.o.trans (ak.mono ae.o.size);replace af:=zh af;have ay:=zh (av.o.below ak);clear ak HS2 aF aO;go_wp2
     (try rw[yN])
     exact Bu (zB _) (Ds) _ ay.o af.o (fun W2 aj _=>⟨_,xO rfl _ _ _,au.o ad.o _ _ rfl aj⟩)
    skip
    have m1:decide (rp<1)=false:=zH hr1
    by_cases h1v:v<=sm
    rotate_left
    .skip
     have kl:Hid (∀W,Env W->Calls prog 54 #[.agg #[.bool (rq (v)).1,.string (rq (v)).2.1,.string (rq (v)).2.2],.agg #[.bool (rq (sm)).1,.string (rq (sm)).2.1,.string (rq (sm)).2.2]] W fun e w'=>e=.returned (.bool false)/\Below W.heap.size W w'):=fun W hW=>by have h:=BS (v) (sm) a6.o aL.o W hW;rw[zH h1v]at h;exact h
     have ad:Hid (¬Chk s F false V R):=ap.o fun h=>h1v (by rw[hv.o,a5.o];exact((h.2 rfl).2.2 aa hm).2.1);replace hr1:=zh hr1;replace aa:=zh aa;replace hm:=zh hm;replace h1v:=zh h1v
     go_wp2_with fail
     clear o0 o1 o2 o9 x0 x1 x2 x9 y0 y9 f0 f1 f2 f9 r0 rkl rkc;refine AT (by kernel_rfl) (by kernel_rfl) ?_
     repeat (
      with_reducible refine wI (fun K hK=>?_)
      first
       |(refine BU (by rfl) ?_;refine hK _ ?_;clear hK K;(try simp only[Act.put,zA,zD,zC]))
       |(refine BV (by rfl) ?_
         go_simp;apply Exists.intro;refine⟨fun W hW=>?_,hK _ ?_⟩
         first
          |(with_reducible exact AA hW (kl.o W (aF.o W hW)))
          |(with_reducible exact AA hW (aO.o W hW))
          |(obtain⟨q1,q2,q3,q4,q5,q6,q7,q8,q9⟩:=HS2.o W hW;go_simp<;>with_reducible rfl)
         clear hK K))
     refine wU ?_;intro wf ak;have af:=ae.o.trans (ak.mono ae.o.size);replace af:=zh af;have ay:=zh (av.o.below ak);clear ak HS2 aF aO;go_wp2
     (try rw[yN])
     exact Bu (zB _) (Ds) _ ay.o af.o (fun W2 aj _=>⟨_,xO rfl _ _ _,au.o ad.o _ _ rfl aj⟩)
    skip
    have kl:Hid (∀W,Env W->Calls prog 54 #[.agg #[.bool (rq (v)).1,.string (rq (v)).2.1,.string (rq (v)).2.2],.agg #[.bool (rq (sm)).1,.string (rq (sm)).2.1,.string (rq (sm)).2.2]] W fun e w'=>e=.returned (.bool true)/\Below W.heap.size W w'):=fun W hW=>by have h:=BS (v) (sm) a6.o aL.o W hW;rw[zG h1v]at h;exact h
    have bZ:Hid ((∃x,x∈Ag s.cap/\x.1=p/\0<=rnk R x.2.1/\rnk R x.2.1<rnk R p/\val x.2.1≠0)->∀j,j<p+1->DL (Ag s.cap) (toN F) false val (rnk R) j):=fun bp=>a7.o ⟨fun h=>(by cases h),fun _=>⟨fun h=>absurd h aa,fun _ h=>absurd h hm,fun _ _=>⟨by rw[<-ah.o];omega,by rw[<-hv.o,<-a5.o];exact h1v,bp⟩⟩⟩;have b3:Hid ((¬∃x,x∈Ag s.cap/\x.1=p/\0<=rnk R x.2.1/\rnk R x.2.1<rnk R p/\val x.2.1≠0)->¬Chk s F false V R):=fun bp=>ap.o fun h=>bp ((h.2 rfl).2.2 aa hm).2.2;replace hr1:=zh hr1;replace aa:=zh aa;replace hm:=zh hm;replace h1v:=zh h1v;clear a7 ap
    go_wp2_with fail
    clear o0 o1 o2 o9 x0 x1 x2 x9 y0 y9 f0 f1 f2 f9 r0 rkl rkc;refine AT (by kernel_rfl) (by kernel_rfl) ?_
    repeat (
     with_reducible refine wI (fun K hK=>?_)
     first
      |(refine BU (by rfl) ?_;refine hK _ ?_;clear hK K;(try simp only[Act.put,zA,zD,zC]))
      |(refine BV (by rfl) ?_
        go_simp;apply Exists.intro;refine⟨fun W hW=>?_,hK _ ?_⟩
        first
         |(with_reducible exact AA hW (kl.o W (aF.o W hW)))
         |(with_reducible exact AA hW (aO.o W hW))
         |(obtain⟨q1,q2,q3,q4,q5,q6,q7,q8,q9⟩:=HS2.o W hW;go_simp<;>with_reducible rfl)
        clear hK K))
    refine wU ?_;intro wf ak;have af:=ae.t ak;have a8:=ag.t ak;have ay:=zh (av.o.below ak);have bi:=zh (a9.o.below ak);have b6:=zh (bM.o.below a8.o);have ba:=zh (b7.o.below a8.o);clear ak HS2 aF aO kl ae ag av a9 a2 aY a1 aW;have u0:=ba.o.c0;have u1:=ba.o.c1;have u2:=ba.o.c2;have u9:=ba.o.lt;have y0:=bi.o.c0;have y9:=bi.o.lt;have kh:=zh (Hm s Ap Ac Av cp cc cv (p:Int) wf)
    go_wp2_with fail
    refine kh.o.q fun w8 aM=>?_
    go_wp2_with fail
    (try rw[<-aM])
    have cq:w8.heap.size=wf.heap.size+2:=by rw[aM];simp
    have bD:Hid (Below wf.heap.size wf w8):=by rw[aM];exact((zI _ _).alloc (zB _) _).alloc (by simp) _
    have b8:Hid (Bk w8 wf.heap.size 32 [.slice Ap s.ps.length cp,.slice Ac s.cap.length cc,.slice Av s.vot.length cv]):=by rw[aM];exact(Bk.new wf _ _).alloc _
    have bL:Hid (Bk w8 (wf.heap.size+1) 3 [.int .i64 (p:Int)]):=by
     rw[aM];have h:=Bk.new (wf.alloc (.cells #[.slice Ap s.ps.length cp,.slice Ac s.cap.length cc,.slice Av s.vot.length cv] 32)) 3 [.int .i64 (p:Int)];rw[zV]at h;exact h
    have bo:=zh (hs.o.below af.o).cap;have cb:Hid (InLk w8 Ac s.cap):=bo.o.below bD.o
    have cd:Hid (0<s.cap.length->∀b o,Ac=some ⟨b,o,none⟩->b<wf.heap.size):=fun h0 b o e=>by
     obtain⟨b',o',e',hl,_⟩:=bo.o h0;rw[e]at e';cases e';exact hl
    replace aM:=zh aM;clear u0 u1 u2 u9 y0 y9 kh bo;refine TF (fun fr a4=>?_);refine(wpIn_wide (n:=3)).1 ?_
    refine wpIn_rangeFunc_ownH (F:=Fence.wide) rfl (by decide) (gf:=101) (lb:=#[.pointer (some ⟨wf.heap.size,0,none⟩),.pointer (some ⟨wf.heap.size+1,0,none⟩)]) (by rw[a4];rfl) trivial (enters_of func101 (by kernel_rfl) rfl)
     (FC Fence.wide 2 trivial rfl (by decide) s Ap Ac Av cp cc cv wf.heap.size (wf.heap.size+1) wf.heap.size (p:Int) w8 cb.o bu (by omega) cd.o (by omega) b8.o (bL.o.c0)) (fun h k=>Kq.trans h k) (Yj (by omega) (by omega)) (zI _ _) (fun _=>rfl)
     (fun pre W=>(NG (Ag s.cap) val (rnk R) p pre/\Bk W (wf.heap.size+1) 3 [.int .i64 (p:Int)])/\Below wf.heap.size wf W)
     (fun c pre W=>(c=.exit 1/\SG (Ag s.cap) val (rnk R) p pre)/\Below wf.heap.size wf W)
     (OwnFrom.and (fun _ _ _ _ hs hg hr=>⟨hs.1,GR hs.2 hg hr⟩) (ownFrom_below (zB _) (by omega)))
     (fun c=>OwnFrom.and (fun _ _ _ _ hs _ _=>hs) (ownFrom_below (zB _) (by omega)))
     ⟨⟨fun _ h=>(by cases h),bL.o⟩,bD.o⟩
     (fun x a' W=>∃Bx,wf.heap.size+1<Bx/\Bk W Bx 106 [.int .i64 (s.cap[x.1]'x.2).1,.int .i64 (s.cap[x.1]'x.2).2.1,.bool (s.cap[x.1]'x.2).2.2.1,.string (s.cap[x.1]'x.2).2.2.2.1,.string (s.cap[x.1]'x.2).2.2.2.2]/\a'={ tmps:=(fr.setIfInBounds 87 (lkV (s.cap[x.1]'x.2))).setIfInBounds 16 (.pointer (some ⟨Bx,0,none⟩)),defers:=[] })
     (fun x a' _ X Y row hs hg hr=>by obtain⟨Bx,h1,h2,h3⟩:=hs;exact⟨Bx,h1,GR h2 hg hr,h3⟩)
     ?assign ?body ?done ?stop
    case assign=>
     rintro l pre x W K ⟨⟨ar,bP⟩,hB⟩ bH;have bn:=hB.size;have b5:=bP.lt;subst a4;unfold lkV at bH ⊢
     gi_wp2
     exact bH _ _ ((KeepsOthers.alloc _ _).from _) ((Kq.refl W).alloc bn b5 _) ⟨⟨ar,bP.alloc _⟩,hB.alloc bn _⟩ ⟨W.heap.size,by omega,Bk.new W _ _,rfl⟩
    case body=>
     rintro l pre x a' W hl ⟨r,hr⟩ ⟨⟨ar,bP⟩,hB⟩ ⟨Bx,ci,bX,rfl⟩ cm;obtain⟨i,hi⟩:=x;obtain⟨co,ho,part,br,aL,ck,bq⟩:=Dl bw.o (k:=i) hi;dsimp only at bX ⊢;rw[br]at bX ⊢;dsimp only at bX;have aK:Hid (Gd (Ag s.cap) val (rnk R) p i<->0<=rnk R ho/\rnk R ho<rnk R p/\val ho≠0):=by unfold Gd;rw[IK hi,aL];exact wH
     have bn:=hB.size;have aE:=af.o.trans (hB.mono af.o.size);have bQ:=b6.o.below hB;have bI:=bi.o.below hB;rw[hvl.o]at bQ;obtain⟨b1,o1,e1,rl,rc⟩:=(hR.o.below aE) (by rw[hrl.o];omega)
     cases e1
     have r0:=rc p (by rw[hrl.o];exact hpn);have r1:=rc ho (by rw[hrl.o];exact bq);have aS:rnk R ho=R[ho]'(by rw[hrl.o];exact bq):=by unfold rnk;rw[yH,ze (by rw[hrl.o];exact bq)];rfl
     rw[<-bT.o]at r0;rw[<-aS]at r1;obtain⟨b2,o2,e2,vl,vc⟩:=(bk.o.below aE (zB _)) (by rw[Au];omega)
     cases e2
     obtain⟨_,v1,_⟩:=vc ho (by rw[Au];omega);rw[BN]at v1;clear rc vc aS;have f1:=bQ.c1;have f2:=bQ.c2;have f9:=bQ.lt;have y0:=bI.c0;have y9:=bI.lt;have x1:=bX.c1;have x9:=bX.lt;obtain⟨rh,aS⟩:∃x,x=rnk R ho:=⟨_,rfl⟩;obtain⟨bz,bv⟩:∃x,x=rnk R p:=⟨_,rfl⟩;obtain⟨vh,bx⟩:∃x,x=val ho:=⟨_,rfl⟩;rw[<-aS]at r1 aK;rw[<-bv]at r0 aK;rw[<-bx]at v1 aK;have z:=Mo vh;have q3:(0:Int)<=(ho:Int):=by omega
     have q4:(ho:Int)<(s.ps.length:Int):=by omega
     have q5:(ho:Int)<(R.length:Int):=by rw[hrl.o];omega
     replace aS:=zh aS;replace bv:=zh bv;replace bx:=zh bx;replace hB:=zh hB;replace bP:=zh bP;replace ar:=zh ar;replace br:=zh br;replace aL:=zh aL;replace hr:=zh hr;replace aE:=zh aE;clear bX bQ bI;subst a4;simp only[zA,zD,zC]
     by_cases g1:0<=rh
     rotate_left
     .skip
      have n1:decide (0<=rh)=false:=zH g1;have aJ:Hid (¬Gd (Ag s.cap) val (rnk R) p i):=fun h=>g1 (aK.o.1 h).1;replace g1:=zh g1
      gi_wp2
      exact⟨KeepsFrom.refl _ _,Kq.refl W,⟨ar.o.snoc aJ.o,bP.o⟩,hB.o⟩
     .skip
      have n1:decide (0<=rh)=true:=zG g1
      by_cases g2:rh<bz
      rotate_left
      .skip
       have n2:decide (rh<bz)=false:=zH g2;have aJ:Hid (¬Gd (Ag s.cap) val (rnk R) p i):=fun h=>g2 (aK.o.1 h).2.1;replace g1:=zh g1;replace g2:=zh g2
       gi_wp2
       exact⟨KeepsFrom.refl _ _,Kq.refl W,⟨ar.o.snoc aJ.o,bP.o⟩,hB.o⟩
      .skip
       have n2:decide (rh<bz)=true:=zG g2
       by_cases g3:vh=0
       .skip
        rw[zG g3]at z;have aJ:Hid (¬Gd (Ag s.cap) val (rnk R) p i):=fun h=>(aK.o.1 h).2.2 g3;replace g1:=zh g1;replace g2:=zh g2;replace g3:=zh g3;have z2:((rq vh).2.1.toList != [48])=false:=by unfold bne;rw[z];rfl
        gi_wp2
        exact⟨KeepsFrom.refl _ _,Kq.refl W,⟨ar.o.snoc aJ.o,bP.o⟩,hB.o⟩
       .skip
        rw[zH g3]at z;have aJ:Hid (Gd (Ag s.cap) val (rnk R) p i):=aK.o.2 ⟨g1,g2,g3⟩;replace g1:=zh g1;replace g2:=zh g2;replace g3:=zh g3;have z2:((rq vh).2.1.toList != [48])=true:=by unfold bne;rw[z];rfl
        gi_wp2
        exact⟨KeepsFrom.refl _ _,⟨rfl,SG.snoc pre aJ.o⟩,hB.o⟩
    case done=>
     rintro D2 ys W hD rfl ⟨⟨ar,_⟩,hB⟩ aX
     have ad:Hid (¬Chk s F false V R):=b3.o fun hx=>by
      obtain⟨i,h1,h2⟩:=QE bw.o hx;exact ar i h1 h2
     have aE:=af.t hB;have bh:Hid (Mk w.heap.size (D2::Ds) W):=(ay.o.below hB).cons (by have:=af.o.size;omega) aX (fun h=>by have:=ay.o.lt h;omega);clear ar aX hB;subst a4;go_wp2
     (try rw[yN])
     exact Bu (zB _) (D2::Ds) _ bh.o aE.o (fun W2 aj _=>⟨_,xO rfl _ _ _,au.o ad.o _ _ rfl aj⟩)
    case stop=>
     rintro D2 c pre W hD ⟨k,hk,rfl⟩ ⟨⟨rfl,ch⟩,hB⟩ aX;obtain⟨i,hi,bR⟩:=ch;have aV:=zh (bZ.o (QF bw.o hi bR));have aE:=af.t hB;have b0:=a8.t hB;have bh:Hid (Mk w.heap.size (D2::Ds) W):=(ay.o.below hB).cons (by have:=af.o.size;omega) aX (fun h=>by have:=ay.o.lt h;omega);clear aX hB hi bR;subst a4;refine wpIn_wide.2 ?_;go_wp2;exact⟨⟨p+1,D2::Ds,_,_,_,_,_,_,_,_,_,_,_,_,_,_,_,_,_,_,_,_,_,_,_,_,_,_,_,_,_,_,_,_,_,_,_,_,_,_,_,_,_,_,_,_,_,_,_,_,_,_,_,_,_,_,_,_,_,_,_,_,_,_,_,_,_,_,_,_,_,_,_,_,_,_,_,_,_,_,_,_,_,_,_,_,_,_,_,_,_,_,_,_,_,_,_,_,_,_,_,_,_,_,_,_,_,_,_,_,_,_,_,_,_,_,_,_,_,_,_,_,_,_,_,_,_,_,_,_,_,_,_,_,_,_,_,_,_,_,_,_,_,_,_,_,_,_,by omega,aV,b0,bh,by go_num⟩,by simp[intOf];omega⟩
  skip
  obtain rfl:p=s.ps.length:=by omega
  have bW:=zh (be.o.1 hI.o);go_wp2
  (try rw[yN])
  exact Bu (zB _) Ds _ hM.o aU.o (fun W2 aj _=>⟨_,xO rfl _ _ _,ChkPost.yes bW.o rfl aj⟩)
theorem QG(s:SR)(Ap Ac Av Af Aw Ar:Option Addr)(cp cc cv cf cw cr:Nat)(F:List Int)(ab:Bool)(V:List Raw)(R:List Int)(w:World)(hE:Env w)(hs:StIn w s Ap Ac Av)(af:s.cap.length<=300)(hF:InInt w Af F)(d:F.length<=140737488355328)
 (hV:InRow w Aw V)(ad:V.length<=140737488355328)(ae:∀k (h:k<V.length),V[k].2.1.size<=140737488355328/\V[k].2.2.size<=140737488355328)(hR:InInt w Ar R)(aa:R.length<=140737488355328):
 Calls prog 17 #[.agg #[.slice Ap s.ps.length cp,.slice Ac s.cap.length cc,.slice Av s.vot.length cv],.slice Af F.length cf,.agg #[.bool ab,.slice Aw V.length cw,.slice Ar R.length cr]] w (ChkPost s F ab V R w):=by
 cases ab
 .exact Mp s Ap Ac Av Af Aw Ar cp cc cv cf cw cr F V R w hE hs af hF d hV ad ae hR aa
 exact Oe s Ap Ac Av Af Aw Ar cp cc cv cf cw cr F V R w hE hs af hF d hV ad ae hR aa
end Bd
end
section
open Go.RowKit Go.Shelf
namespace Sh
open Nt Ci
structure VMC(w:World)(vb mb n:Nat)(val:Nat->Rat)(C:Nat):Prop where
 x:Bk w vb 77 [.map (some mb)]
 m:∃c f,MapK prog 3 κi w mb c f/\c<=C/\∀p:Nat,p<n->match f (p:Int) with|some v=>v=qv (val p)|none=>val p=0
 ne:vb≠mb
section
variable {w w':World} {vb mb n C:Nat} {val:Nat->Rat}
theorem VMC.vm(h:VMC w vb mb n val C)(hC:C<=100000):VM w vb mb n val:=by
 obtain⟨c,f,h1,h2,h3⟩:=h.m;exact⟨h.x,c,f,h1,by omega,h3⟩
theorem VMC.lt(h:VMC w vb mb n val C):mb<w.heap.size:=by
 obtain⟨c,f,h1,_⟩:=h.m;exact h1.lt
theorem VMC.kp{xs:List Nat}(h:VMC w vb mb n val C)(hk:Kp xs w w')(h1:vb∉xs)(h2:mb∉xs):VMC w' vb mb n val C:=by
 obtain⟨c,f,a1,a2,a3⟩:=h.m;exact⟨h.x.kp hk h1,⟨c,f,a1.block (hk.block mb a1.lt h2),a2,a3⟩,h.ne⟩
theorem VMC.below(h:VMC w vb mb n val C)(hb:Below w.heap.size w w'):VMC w' vb mb n val C:=by
 obtain⟨c,f,a1,a2,a3⟩:=h.m;exact⟨h.x.below hb,⟨c,f,a1.below hb,a2,a3⟩,h.ne⟩
theorem VMC.congr{val':Nat->Rat}(h:VMC w vb mb n val C)(e:∀p,p<n->val' p=val p):VMC w vb mb n val' C:=by
 obtain⟨c,f,a1,a2,a3⟩:=h.m;exact⟨h.x,⟨c,f,a1,a2,fun p hp=>by rw[e p hp];exact a3 p hp⟩,h.ne⟩
theorem VMC.put(h:VMC w vb mb n val C)(hC:C<100000){p:Nat}(hp:p<100000)(q:Rat):
 ∃w',(Instr.mapUpdate 77 (.map (some mb)) (.int .i64 (p:Int)) (qv q)).run prog w=.ok () w'/\VMC w' vb mb n (fun x=>if x=p then q else val x) (C+1)/\w.grownBy w' (some mb):=by
 obtain⟨c,f,a1,a2,a3⟩:=h.m;obtain⟨w',r1,r2,r3⟩:=a1.put GF FO underlying77 (by unfold maxLen;omega) (EB underlying3 (a:=(p:Int)) (by omega) (by omega)) (qv q);refine⟨w',r1,⟨h.x.grown r3 (by simpa using h.ne),⟨_,_,r2,?_,fun x hx=>?_⟩,h.ne⟩,r3⟩
 .split<;>omega
 by_cases e:x=p
 .subst e;rw[Be,zF rfl]
 rw[Bh (by omega),zE e];exact a3 x hx
end
theorem inInt_kp{w w':World}{xs:List Nat}{A:Option Addr}{l:List Int}(h:InInt w A l)(hk:Kp xs w w')(hb:∀b o,A=some ⟨b,o,none⟩->b∉xs):InInt w' A l:=fun h0=>by
 obtain⟨b,o,e,hl,hc⟩:=h h0;have d:=hk.block b hl (hb b o e);exact⟨b,o,e,zJ hl hk.size,fun j hj=>(zU (a:=⟨b,o+j,none⟩) d).trans (hc j hj)⟩
structure EntB(W:World)(B xb:Nat)(A:Option Addr)(c:Nat)(u:List Nat):Prop where
 x:Bk W xb 84 [.slice A u.length c,.slice none 0 0,.slice none 0 0]
 o:W.ownsRow B 3 1 (.slice A u.length c) u.length (Bv u)
 nx:(Value.slice A u.length c).ownBlock≠some xb
section
variable {W W':World} {B xb c:Nat} {A:Option Addr} {u:List Nat}
theorem EntB.start(h:Bk W xb 84 [.slice none 0 0,.slice none 0 0,.slice none 0 0]):EntB W B xb none 0 [] :=
 ⟨h,yf _ _ _ _,by simp[Value.ownBlock]⟩
theorem EntB.below(h:EntB W B xb A c u)(hb:Below W.heap.size W W'):EntB W' B xb A c u:=⟨h.x.below hb,AC h.o hb,h.nx⟩
theorem EntB.inInt(h:EntB W B xb A c u):InInt W A (u.map fun(q:Nat)=>(q:Int)):=fun h0=>by
 rcases D3 h.o with⟨e,e2⟩|⟨g,cap,e,h1,h2,_,h4⟩
 .rw[e2]at h0;simp at h0
 injection e with e1 _ _;refine⟨g,0,e1,h2,fun j hj=>?_⟩;have d:j<u.length:=by simpa using hj
 rw[yJ,yS];exact h4 j d
theorem EntB.blk(h:EntB W B xb A c u)(b o:Nat)(e:A=some ⟨b,o,none⟩):B<=b/\b<W.heap.size/\b≠xb:=by
 rcases D3 h.o with⟨e1,_⟩|⟨g,cap,e1,h1,h2,_,_⟩
 .injection e1 with e1 _ _;rw[e]at e1;cases e1
 injection e1 with e1 _ _;have hb:b=g:=by rw[e]at e1;injection e1 with e1;injection e1
 subst hb;have ho:o=0:=by rw[e]at e1;injection e1 with e1;injection e1
 subst ho;refine⟨h1,h2,fun hx=>h.nx ?_⟩;rw[e,<-hx];rfl
theorem EntB.step(h:EntB W B xb A c u){p:Nat}{v':Value}{w':World}(ho:w'.ownsRow B 3 1 v' (u.length+1) (Bv u++[.int .i64 (p:Int)]))(hg:W.grownBy w' (Value.slice A u.length c).ownBlock)
 (hn:v'.ownBlock=(Value.slice A u.length c).ownBlock\/v'.ownBlock=some W.heap.size):∃A' c',v'=.slice A' (u.length+1) c'/\EntB (w'.setCell ⟨xb,0,none⟩ v') B xb A' c' (u++[p])/\Bk w' xb 84 [.slice A u.length c,.slice none 0 0,.slice none 0 0]:=by
 obtain⟨A',c',rfl⟩:=Ci.Dy ho;have hx:=h.x.grown hg fun e=>h.nx e.symm
 have d:(Value.slice A' (u.length+1) c').ownBlock≠some xb:=fun e=>by
  rcases hn with c1|c1
  .exact h.nx (c1▸e)
  rw[c1]at e;cases e;exact absurd h.x.lt (wB _)
 have hl:(u++[p]).length=u.length+1:=by simp
 refine⟨A',c',rfl,⟨?_,?_,?_⟩,hx⟩
 .rw[hl];exact hx.set 0 _
 .rw[hl,E4];exact Pa ho ((Kp.refl [xb] w').set _ (.inl (by simp))) (fun b e hb=>d (by rw[e,List.mem_singleton.1 hb]))
 rw[hl];exact d
end
structure Ent where
 x:Nat
 A:Option Addr
 c:Nat
 u:List Nat
def Ent.pt(e:Ent):Value:=.pointer (some ⟨e.x,0,none⟩)
structure SyM(W:World)(B:Nat)(v:Value)(E:List Ent):Prop where
 row:W.ownsRow B 81 1 v E.length (E.map Ent.pt)
 ent:∀e,e∈E->Bk W e.x 84 [.slice e.A e.u.length e.c,.slice none 0 0,.slice none 0 0]/\InInt W e.A (e.u.map fun(q:Nat)=>(q:Int))/\B<=e.x
 blk:∀e,e∈E->∀b o,e.A=some ⟨b,o,none⟩->B<=b/\b<W.heap.size/\∀f,f∈E->b≠f.x
 nd:(E.map Ent.x).Nodup
 rb:∀b,v.ownBlock=some b->∀e,e∈E->b≠e.x/\∀o,e.A≠some ⟨b,o,none⟩
section
variable {W W':World} {B:Nat} {v:Value} {E:List Ent}
theorem SyM.start(W:World)(B:Nat):SyM W B (.slice none 0 0) [] :=
 ⟨yf _ _ _ _,(fun e h=>by cases h),(fun e h=>by cases h),vL,fun b e=>by cases e⟩
theorem SyM.below(h:SyM W B v E)(hb:Below W.heap.size W W'):SyM W' B v E :=
 ⟨AC h.row hb,fun e he=>⟨(h.ent e he).1.below hb,(h.ent e he).2.1.below hb,(h.ent e he).2.2⟩,fun e he b o q=>by
   obtain⟨h1,h2,h3⟩:=h.blk e he b o q;exact⟨h1,zJ h2 hb.size,h3⟩,h.nd,h.rb⟩
theorem SyM.add{W2 W3:World}{v':Value}{e:Ent}(h:SyM W B v E)(hB:B<=W.heap.size)(hb:Below W.heap.size W W2)(hx:Bk W2 e.x 84 [.slice e.A e.u.length e.c,.slice none 0 0,.slice none 0 0])(hi:InInt W2 e.A (e.u.map fun(q:Nat)=>(q:Int)))
 (hn:W.heap.size<=e.x)(hA:∀b o,e.A=some ⟨b,o,none⟩->W.heap.size<=b/\b<W2.heap.size/\b≠e.x)
 (ho:W3.ownsRow B 81 1 v' (E.length+1) (E.map Ent.pt++[e.pt]))(hg:W2.grownBy W3 v.ownBlock)(hv:v'.ownBlock=v.ownBlock\/∃b,v'.ownBlock=some b/\W2.heap.size<=b):SyM W3 B v' (E++[e]):=by
 have h2:=h.below hb;have rlt:∀b,v.ownBlock=some b->b<W.heap.size:=fun b q=>(h.row.lt b q).2;have xlt:∀f,f∈E->f.x<W.heap.size:=fun f hf=>(h.ent f hf).1.lt;have key:∀f,f∈E++[e]->f∈E\/f=e:=fun f hf=>by simpa using hf
 refine⟨by rw[zX,yD];exact ho,fun f hf=>?_,fun f hf b o q=>?_,?_,fun b q f hf=>?_⟩
 .rcases key f hf with c|rfl
  .obtain⟨e1,e2,e3⟩:=h2.ent f c;refine⟨e1.grown hg fun q=>(h.rb _ q.symm f c).1 rfl,fun h0=>?_,e3⟩;obtain⟨b,o,q,hl,hc⟩:=e2 h0;refine⟨b,o,q,zJ hl hg.size,fun j hj=>(zU (a:=⟨b,o+j,none⟩) (hg.block b hl fun z=>?_)).trans (hc j hj)⟩;exact(h.rb b z.symm f c).2 o q
  refine⟨hx.grown hg fun q=>?_,fun h0=>?_,zQ hB hn⟩
  .have:=rlt _ q.symm;omega
  obtain⟨b,o,q,hl,hc⟩:=hi h0;refine⟨b,o,q,zJ hl hg.size,fun j hj=>(zU (a:=⟨b,o+j,none⟩) (hg.block b hl fun z=>?_)).trans (hc j hj)⟩;have:=rlt _ z.symm;have:=(hA b o q).1;omega
 .rcases key f hf with c|rfl
  .obtain⟨e1,e2,e3⟩:=h.blk f c b o q;refine⟨e1,zJ e2 (zQ hb.size hg.size),fun g aa=>?_⟩
   rcases key g aa with d|rfl
   .exact e3 g d
   omega
  obtain⟨e1,e2,e3⟩:=hA b o q;refine⟨by omega,zJ e2 hg.size,fun g aa=>?_⟩
  rcases key g aa with d|rfl
  .have:=xlt g d;omega
  exact e3
 .rw[yD,List.map_singleton];refine List.nodup_append.2 ⟨h.nd,by simp,fun a ha b ae=>?_⟩;obtain⟨f,hf,rfl⟩:=List.mem_map.1 ha;rw[List.mem_singleton.1 ae];have:=xlt f hf;omega
 have ad:v.ownBlock=some b\/W2.heap.size<=b:=by
  rcases hv with c|⟨b2,c,d⟩
  .exact .inl (c▸q)
  rw[c]at q;cases q;exact .inr d
 have af:e.x<W2.heap.size:=hx.lt;have ah:=hb.size
 rcases key f hf with c|rfl
 .rcases ad with d|d
  .exact h.rb b d f c
  refine⟨by have:=xlt f c;omega,fun o z=>?_⟩;have:=(h.blk f c b o z).2.1;omega
 rcases ad with d|d
 .have ag:=rlt b d;refine⟨by omega,fun o z=>?_⟩;have:=(hA b o z).1;omega
 refine⟨by omega,fun o z=>?_⟩;have:=(hA b o z).2.1;omega
end
end Sh
end
section
open Go.RowKit Go.Shelf
namespace Sh
open Nt Ci
theorem TG(k:Int)(q:Rat)(hq:(k:Rat)=q)(hk:-10<=k/\k<=10)(w:World)(hE:Env w):
 Calls prog 36 #[.int .i64 k] w fun e w'=>e=.returned (.agg #[.bool (rq q).1,.string (rq q).2.1,.string (rq q).2.2])/\Below w.heap.size w w':=Gx k q hq hk w hE
theorem Pf{w:World}{vb mb n C:Nat}{val:Nat->Rat}(h:VMC w vb mb n val C)(hC:C<100000){p:Nat}(hp:p<100000)(q:Rat):
 ∃w',(Instr.mapUpdate 77 (.map (some mb)) (.int .i64 (p:Int)) (.agg #[.bool (rq q).1,.string (rq q).2.1,.string (rq q).2.2])).run prog w=.ok () w'/\VMC w' vb mb n (fun x=>if x=p then q else val x) (C+1)/\w.grownBy w' (some mb):=h.put hC hp q
noncomputable def efR(j:Nat):Code:=((Tryz.f12.body.map Ci.Bl).bind fun l=>l.find? (T1 j)).getD .skip
theorem ef9{c0 c1 c2 c3 c4 c5 c6 c7 c8 c9 bz bA bB bC bD bE bF bG bH bI bJ bK bL bM bN bO bP bQ bR bS bT bU bW bX bY bZ b0 b1 b2 b3 b4 b5 b6 b7 b8 b9 cb cd cf cg ch ci cj ck cm cn cq cr ct cu cx cy cz cA cB cC cD cE cF cG cH cI cJ cK cL cM cN cP cR cS cT cU cV cW cX cY cZ da db dc dd de dh di dj ad ae af ag ah ai aj ak al am an ao ap aq ar au av aw ax ay az aA aB aC aD aE aF aG aH aI aJ aK aL aM aN aO aP aQ aR aS aT aU aV aW aX aY aZ a0 a1 a2 a3 a4 a5 a6 a7 a8 a9 ba bb bc bd be bf bg bh bi bj bk bm bn bo bp bq br bs bt bu bv dq dr ds:Value}{Q:Exit->Act->World->Prop}(vb mb n C p:Nat)(val:Nat->Rat)(w:World)(hE:Env w)(hV:VMC w vb mb n val C)(hC:C<100000)(hp:p<100000)
 (h:∀(u58 u59 u60:Value)(W:World)(_:Hid (VMC W vb mb n (fun x=>if x=p then 1 else val x) (C+1)))(_:Hid (Kp [mb] w W)),Q .normal ⟨#[c0,c1,c2,c3,c4,c5,c6,c7,c8,c9,.pointer (some ⟨vb,0,none⟩),bz,.int .i64 (p:Int),bA,bB,bC,bD,bE,bF,bG,bH,bI,bJ,bK,bL,bM,bN,bO,bP,bQ,bR,bS,bT,bU,bW,bX,bY,bZ,b0,b1,b2,b3,b4,b5,b6,b7,b8,b9,cb,cd,cf,cg,ch,ci,cj,ck,cm,cn,u58,u59,u60,cq,cr,ct,cu,cx,cy,cz,cA,cB,cC,cD,cE,cF,cG,cH,cI,cJ,cK,cL,cM,cN,cP,cR,cS,cT,cU,cV,cW,cX,cY,cZ,da,db,dc,dd,de,dh,di,dj,ad,ae,af,ag,ah,ai,aj,ak,al,am,an,ao,ap,aq,ar,au,av,aw,ax,ay,az,aA,aB,aC,aD,aE,aF,aG,aH,aI,aJ,aK,aL,aM,aN,aO,aP,aQ,aR,aS,aT,aU,aV,aW,aX,aY,aZ,a0,a1,a2,a3,a4,a5,a6,a7,a8,a9,ba,bb,bc,bd,be,bf,bg,bh,bi,bj,bk,bm,bn,bo,bp,bq,br,bs,bt,bu,bv],[]⟩ W):
 Code.wp prog (efR 9) Q ⟨#[c0,c1,c2,c3,c4,c5,c6,c7,c8,c9,.pointer (some ⟨vb,0,none⟩),bz,.int .i64 (p:Int),bA,bB,bC,bD,bE,bF,bG,bH,bI,bJ,bK,bL,bM,bN,bO,bP,bQ,bR,bS,bT,bU,bW,bX,bY,bZ,b0,b1,b2,b3,b4,b5,b6,b7,b8,b9,cb,cd,cf,cg,ch,ci,cj,ck,cm,cn,dq,dr,ds,cq,cr,ct,cu,cx,cy,cz,cA,cB,cC,cD,cE,cF,cG,cH,cI,cJ,cK,cL,cM,cN,cP,cR,cS,cT,cU,cV,cW,cX,cY,cZ,da,db,dc,dd,de,dh,di,dj,ad,ae,af,ag,ah,ai,aj,ak,al,am,an,ao,ap,aq,ar,au,av,aw,ax,ay,az,aA,aB,aC,aD,aE,aF,aG,aH,aI,aJ,aK,aL,aM,aN,aO,aP,aQ,aR,aS,aT,aU,aV,aW,aX,aY,aZ,a0,a1,a2,a3,a4,a5,a6,a7,a8,a9,ba,bb,bc,bd,be,bf,bg,bh,bi,bj,bk,bm,bn,bo,bp,bq,br,bs,bt,bu,bv],[]⟩ w:=by
 conv=>arg 2;whnf
 conv=>arg 4;zeta
 replace h:=zh h;have bw:Hid (Below w.heap.size w w.drew):=(zI _ w).drew;have kn:=zh (fun W hW=>TG 1 1 (by decide +kernel) (by omega) W hW);have du:Hid (w.drew.cell? ⟨vb,0,none⟩=some (.map (some mb))):=(hV.below (zI _ w).drew).x.c0;replace hE:=zh hE;replace hV:=zh hV;refine xR ?_;refine xG (S:=fun W=>W.cell? ⟨vb,0,none⟩=some (.map (some mb))) (by kernel_rfl) (du.o) (fun d=>?_);replace d:=zh d;refine tkhF (v:=?_) 0 rfl (d.o) (Or.inl ⟨by rfl,?_⟩) ?_;rotate_left
 . (intro w bx;obtain q1:=bx;go_simp<;>with_reducible rfl)
 try simp only[Act.put,zA]
 refine tkhF (v:=?_) 1 rfl (d.o) (Or.inl ⟨by rfl,?_⟩) ?_;rotate_left
 . (intro w bx;obtain q1:=bx;go_simp<;>with_reducible rfl)
 try simp only[Act.put]
 refine zT (rs:=[2]) (by kernel_rfl) (by simp) ?_;refine zK (o:=_) rfl (fun K hK=>?_) ?_
 .go_simp;refine(kn.o _ (hE.o.below bw.o)).q fun W2 hb=>?_;have dk:Hid (Below w.heap.size w W2):=bw.o.trans (hb.mono bw.o.size);have dl:Hid (VMC W2 vb mb n val C):=hV.o.below dk.o;clear hb;refine hK.o _ _ (dl.o.x.c0) (fun _=>?_);clear hK K
  try simp only[Act.put,zA,zD,zC]
  obtain⟨W3,dv,aa,hg⟩:=Pf dl.o hC hp 1;have dt:Hid (Kp [mb] w W3):=((Kp.refl [mb] w).below dk.o).grown hg (fun b e=>.inl (by cases e;simp));replace aa:=zh aa;clear hg;refine zT (rs:=[3]) (by kernel_rfl) (by simp) ?_;refine zK (o:=_) rfl (fun K hK=>?_) ?_
  .go_simp;refine hK.o _ _ (aa.o.x.c0) (fun _=>?_);clear hK K
   try simp only[Act.put,zA,zD,zC]
   refine xJ (by kernel_rfl) ?_ _;refine yx ?_;exact h.o _ _ _ _ aa dt
  exact zR
 exact zR
theorem YN{c0 c1 c2 c3 c4 c5 c6 c7 c8 c9 bz bA bB bC bD bE bF bG bH bI bJ bK bL bM bN bO bP bQ bR bS bT bU bW bX bY bZ b0 b1 b2 b3 b4 b5 b6 b7 b8 b9 cb cd cf cg ch ci cj ck cm cn cq cr ct cx cy cz cA cB cC cD cE cF cG cH cI cJ cK cL cM cN cP cR cS cT cU cV cW cX cY cZ da db dc dd de dh di dj dk dl af ag ah ai aj ak al am an ao ap aq ar au av aw ax ay az aA aB aC aD aE aF aG aH aI aJ aK aL aM aN aO aP aQ aR aS aT aU aV aW aX aY aZ a0 a1 a2 a3 a4 a5 a6 a7 a8 a9 ba bb bc bd be bf bg bh bi bj bk bm bn bo bp bq br bs bt bu bv bw bx:Value}{Q:Exit->Act->World->Prop}(vb mb n C p xb ub uo m cu i lb:Nat)(q:Rat)(val:Nat->Rat)(w:World)(hV:VMC w vb mb n val C)(hC:C<100000)(hp:p<100000)(hi:i<m)(hx:w.cell? ⟨xb,0,none⟩=some (.slice (some ⟨ub,uo,none⟩) m cu))(dr:xb<w.heap.size)(hu:w.cell? ⟨ub,uo+i,none⟩=some (.int .i64 (p:Int)))(dq:ub<w.heap.size)(hl:Bk w lb 48 [.bool (rq q).1,.string (rq q).2.1,.string (rq q).2.2])(n1:xb≠mb)(n2:ub≠mb)(n3:lb≠mb)
 (h:∀(u150 u151 u152 u153 u154 u155 u156 u157 u158:Value)(W:World)(_:Hid (VMC W vb mb n (fun x=>if x=p then q else val x) (C+1)))(_:Hid (Kp [mb] w W)),Q .normal ⟨#[c0,c1,c2,c3,c4,c5,c6,c7,c8,c9,.pointer (some ⟨vb,0,none⟩),bz,bA,bB,bC,bD,bE,bF,bG,bH,bI,bJ,.pointer (some ⟨xb,0,none⟩),bK,bL,.int .i64 (i:Int),.pointer (some ⟨lb,0,none⟩),bM,bN,bO,bP,bQ,bR,bS,bT,bU,bW,bX,bY,bZ,b0,b1,b2,b3,b4,b5,b6,b7,b8,b9,cb,cd,cf,cg,ch,ci,cj,ck,cm,cn,cq,cr,ct,cx,cy,cz,cA,cB,cC,cD,cE,cF,cG,cH,cI,cJ,cK,cL,cM,cN,cP,cR,cS,cT,cU,cV,cW,cX,cY,cZ,da,db,dc,dd,de,dh,di,dj,dk,dl,af,ag,ah,ai,aj,ak,al,am,an,ao,ap,aq,ar,au,av,aw,ax,ay,az,aA,aB,aC,aD,aE,aF,aG,aH,aI,aJ,aK,aL,aM,aN,aO,aP,aQ,aR,aS,aT,aU,aV,aW,aX,aY,aZ,a0,a1,a2,a3,a4,u150,u151,u152,u153,u154,u155,u156,u157,u158,a5,a6,a7,a8,a9,ba,bb,bc,bd,be,bf,bg,bh,bi,bj,bk,bm,bn,bo],[]⟩ W):
 Code.wp prog (efR 40) Q ⟨#[c0,c1,c2,c3,c4,c5,c6,c7,c8,c9,.pointer (some ⟨vb,0,none⟩),bz,bA,bB,bC,bD,bE,bF,bG,bH,bI,bJ,.pointer (some ⟨xb,0,none⟩),bK,bL,.int .i64 (i:Int),.pointer (some ⟨lb,0,none⟩),bM,bN,bO,bP,bQ,bR,bS,bT,bU,bW,bX,bY,bZ,b0,b1,b2,b3,b4,b5,b6,b7,b8,b9,cb,cd,cf,cg,ch,ci,cj,ck,cm,cn,cq,cr,ct,cx,cy,cz,cA,cB,cC,cD,cE,cF,cG,cH,cI,cJ,cK,cL,cM,cN,cP,cR,cS,cT,cU,cV,cW,cX,cY,cZ,da,db,dc,dd,de,dh,di,dj,dk,dl,af,ag,ah,ai,aj,ak,al,am,an,ao,ap,aq,ar,au,av,aw,ax,ay,az,aA,aB,aC,aD,aE,aF,aG,aH,aI,aJ,aK,aL,aM,aN,aO,aP,aQ,aR,aS,aT,aU,aV,aW,aX,aY,aZ,a0,a1,a2,a3,a4,bp,bq,br,bs,bt,bu,bv,bw,bx,a5,a6,a7,a8,a9,ba,bb,bc,bd,be,bf,bg,bh,bi,bj,bk,bm,bn,bo],[]⟩ w:=by
 conv=>arg 2;whnf
 conv=>arg 4;zeta
 replace h:=zh h;have ds:Hid (w.drew.cell? ⟨vb,0,none⟩=some (.map (some mb))/\w.drew.cell? ⟨xb,0,none⟩=some (.slice (some ⟨ub,uo,none⟩) m cu)/\w.drew.cell? ⟨ub,uo+i,none⟩=some (.int .i64 (p:Int))/\w.drew.cell? ⟨lb,0,none⟩=some (.bool (rq q).1)/\w.drew.cell? ⟨lb,1,none⟩=some (.string (rq q).2.1)/\w.drew.cell? ⟨lb,2,none⟩=some (.string (rq q).2.2)):=⟨hV.x.c0,hx,hu,hl.c0,hl.c1,hl.c2⟩;have j0:(0:Int)<=(i:Int):=by omega
 have j1:(i:Int)<(m:Int):=by omega
 obtain⟨W3,du,ae,hg⟩:=Pf (w:=w.drew) (hV.below (zI _ w).drew) hC hp q;have ad:Hid (Kp [mb] w W3):=((Kp.refl [mb] w).drew).grown hg (fun b e=>.inl (by cases e;simp));have dt:Hid (W3.cell? ⟨vb,0,none⟩=some (.map (some mb))/\W3.cell? ⟨xb,0,none⟩=some (.slice (some ⟨ub,uo,none⟩) m cu)/\W3.cell? ⟨ub,uo+i,none⟩=some (.int .i64 (p:Int))/\W3.cell? ⟨lb,0,none⟩=some (.bool (rq q).1)/\W3.cell? ⟨lb,1,none⟩=some (.string (rq q).2.1)/\W3.cell? ⟨lb,2,none⟩=some (.string (rq q).2.2)):=⟨ae.x.c0,(zU (a:=⟨xb,0,none⟩) (ad.o.block xb dr (by simpa using n1))).trans hx,(zU (a:=⟨ub,uo+i,none⟩) (ad.o.block ub dq (by simpa using n2))).trans hu,(hl.kp ad.o (by simpa using n3)).c0,(hl.kp ad.o (by simpa using n3)).c1,(hl.kp ad.o (by simpa using n3)).c2⟩;have dw:xb<w.drew.heap.size:=dr;have ul1:ub<w.drew.heap.size:=dq;have dv:lb<w.drew.heap.size:=hl.lt;replace hV:=zh hV;replace hl:=zh hl;replace ae:=zh ae;replace hx:=zh hx;replace hu:=zh hu;clear hg;refine xR ?_;refine xG (S:=fun W=>W.cell? ⟨vb,0,none⟩=some (.map (some mb))/\W.cell? ⟨xb,0,none⟩=some (.slice (some ⟨ub,uo,none⟩) m cu)/\W.cell? ⟨ub,uo+i,none⟩=some (.int .i64 (p:Int))/\W.cell? ⟨lb,0,none⟩=some (.bool (rq q).1)/\W.cell? ⟨lb,1,none⟩=some (.string (rq q).2.1)/\W.cell? ⟨lb,2,none⟩=some (.string (rq q).2.2)) (by kernel_rfl) (ds.o) (fun aa=>?_);replace aa:=zh aa;refine tkhF (v:=?_) 0 rfl (aa.o) (Or.inl ⟨by rfl,?_⟩) ?_;rotate_left
 . (intro w d;obtain⟨q1,q2,q3,q4,q5,q6⟩:=d;go_simp<;>with_reducible rfl)
 try simp only[Act.put,zA]
 refine tkhF (v:=?_) 1 rfl (aa.o) (Or.inl ⟨by rfl,?_⟩) ?_;rotate_left
 . (intro w d;obtain⟨q1,q2,q3,q4,q5,q6⟩:=d;go_simp<;>with_reducible rfl)
 try simp only[Act.put]
 refine tkhF (v:=?_) 2 rfl (aa.o) (Or.inl ⟨by rfl,?_⟩) ?_;rotate_left
 . (intro w d;obtain⟨q1,q2,q3,q4,q5,q6⟩:=d;go_simp<;>with_reducible rfl)
 try simp only[Act.put]
 refine tkhF (v:=?_) 3 rfl (aa.o) (Or.inl ⟨by rfl,?_⟩) ?_;rotate_left
 . (intro w d;obtain⟨q1,q2,q3,q4,q5,q6⟩:=d;go_simp<;>with_reducible rfl)
 try simp only[Act.put]
 refine tkhF (v:=?_) 4 rfl (aa.o) (Or.inl ⟨by rfl,?_⟩) ?_;rotate_left
 . (intro w d;obtain⟨q1,q2,q3,q4,q5,q6⟩:=d;go_simp<;>with_reducible rfl)
 try simp only[Act.put]
 refine tkhF (v:=?_) 5 rfl (aa.o) (Or.inl ⟨by rfl,?_⟩) ?_;rotate_left
 . (intro w d;obtain⟨q1,q2,q3,q4,q5,q6⟩:=d;go_simp<;>with_reducible rfl)
 try simp only[Act.put]
 refine tkhF (v:=?_) 6 rfl (aa.o) (Or.inl ⟨by rfl,?_⟩) ?_;rotate_left
 . (intro w d;obtain⟨q1,q2,q3,q4,q5,q6⟩:=d;go_simp<;>with_reducible rfl)
 try simp only[Act.put]
 refine tkhF (v:=?_) 7 rfl (aa.o) (Or.inl ⟨by rfl,?_⟩) ?_;rotate_left
 . (intro w d;obtain⟨q1,q2,q3,q4,q5,q6⟩:=d;go_simp<;>with_reducible rfl)
 try simp only[Act.put]
 refine tkhF (v:=?_) 8 rfl (aa.o) (Or.inl ⟨by rfl,?_⟩) ?_;rotate_left
 . (intro w d;obtain⟨q1,q2,q3,q4,q5,q6⟩:=d;go_simp<;>with_reducible rfl)
 try simp only[Act.put]
 refine zT (rs:=[9]) (by kernel_rfl) (by simp) ?_;refine zK (o:=_) rfl (fun K hK=>?_) ?_
 .go_simp;refine hK.o _ _ (dt.o) (fun _=>?_);clear hK K
  try simp only[Act.put,zA,zD,zC]
  refine xJ (by kernel_rfl) ?_ _;refine yx ?_;exact h.o _ _ _ _ _ _ _ _ _ _ ae ad
 exact zR
end Sh
end
section
namespace Ci
def El(E:List (Nat×Nat)):Nat->Nat->Nat->Prop
 |0,i,j=>i=j\/(i,j)∈E
 |k+1,i,j=>El E k i j\/(El E k i k/\El E k k j)
section
variable {E:List (Nat×Nat)} {n i j k m:Nat}
theorem Ka:∀k,El E k i i
 |0=>.inl rfl
 |k+1=>.inl (Ka k)
theorem Pg:El E (k+1) i k<->El E k i k:=⟨fun h=>h.elim id fun h=>h.1,.inl⟩
theorem Mq:El E (k+1) k j<->El E k k j:=⟨fun h=>h.elim id fun h=>h.2,.inl⟩
theorem Of:∀k m i j,m<k->El E k i m->El E k m j->El E k i j:=by
 intro k
 induction k with
 |zero=>intro m i j h;omega
 |succ k ih=>
  intro m i j hm h1 h2
  by_cases e:m=k
  .subst e;exact .inr ⟨Pg.1 h1,Mq.1 h2⟩
  have d:m<k:=by omega
  rcases h1 with h1|⟨h1,h3⟩
  .rcases h2 with h2|⟨h2,h4⟩
   .exact .inl (ih m i j d h1 h2)
   exact .inr ⟨ih m i k d h1 h2,h4⟩
  rcases h2 with h2|⟨_,h4⟩
  .exact .inr ⟨h1,ih m k j d h3 h2⟩
  exact .inr ⟨h1,h4⟩
theorem Og:∀k i j,El E k i j->Reach E i j:=by
 intro k
 induction k with
 |zero=>
  rintro i j (rfl|h)
  .exact .refl _
  exact .one h
 |succ k ih=>
  rintro i j (h|⟨h1,h2⟩)
  .exact ih i j h
  exact(ih i k h1).trans (ih k j h2)
theorem Kb(h:El E 0 i j):∀k,El E k i j
 |0=>h
 |k+1=>.inl (Kb h k)
theorem TH(hE:InN n E):El E n i j<->Reach E i j:=by
 constructor
 .exact Og n i j
 intro h;refine h.closed (C:=fun x=>El E n i x) (Ka n) fun a b ha e=>?_;exact Of n a i b (hE _ e).1 ha (Kb (.inr e) n)
def Tab(E:List (Nat×Nat))(n k i j:Nat)(T:Nat->Nat->Prop):Prop :=
 ∀a b,a<n->b<n->(T a b<->if a<i\/(a=i/\b<j) then El E (k+1) a b else El E k a b)
theorem Tab.row{T:Nat->Nat->Prop}(h:Tab E n k i j T)(hk:k<n){a:Nat}(ha:a<n):T a k<->El E k a k:=by
 rw[h a k ha hk]
 split
 .exact Pg
 exact wH
theorem Tab.col{T:Nat->Nat->Prop}(h:Tab E n k i j T)(hk:k<n){b:Nat}(hb:b<n):T k b<->El E k k b:=by
 rw[h k b hk hb]
 split
 .exact Mq
 exact wH
theorem Tab.step{T T':Nat->Nat->Prop}(h:Tab E n k i j T)(hk:k<n)(hi:i<n)(hj:j<n)(hT:∀a b,T' a b<->T a b\/(a=i/\b=j/\T i k/\T k j)):Tab E n k i (j+1) T':=by
 intro a b ha hb;rw[hT]
 by_cases e:a=i/\b=j
 .obtain⟨rfl,rfl⟩:=e;rw[zF (by omega),h.row hk ha,h.col hk hb,h a b ha hb,zE (by omega)];exact⟨fun c=>c.elim .inl fun c=>.inr c.2.2,fun c=>c.elim .inl fun c=>.inr ⟨rfl,rfl,c⟩⟩
 rw[h a b ha hb];have e2:¬(a=i/\b=j/\T i k/\T k j):=fun c=>e ⟨c.1,c.2.1⟩
 by_cases c:a<i\/(a=i/\b<j)
 .rw[zF c,zF (by omega)];exact⟨fun x=>x.elim id fun y=>absurd y e2,.inl⟩
 rw[zE c,zE (by omega)];exact⟨fun x=>x.elim id fun y=>absurd y e2,.inl⟩
theorem Tab.next{T:Nat->Nat->Prop}(h:Tab E n k i n T):Tab E n k (i+1) 0 T:=by
 intro a b ha hb;rw[h a b ha hb]
 by_cases c:a<i\/(a=i/\b<n)
 .rw[zF c,zF (by omega)]
 rw[zE c,zE (by omega)]
theorem Tab.round{T:Nat->Nat->Prop}(h:Tab E n k n 0 T):Tab E n (k+1) 0 0 T:=by
 intro a b ha hb;rw[h a b ha hb,zF (.inl ha),zE (by omega)]
theorem Tab.end{T:Nat->Nat->Prop}(h:Tab E n n 0 0 T)(hE:InN n E){a b:Nat}(ha:a<n)(hb:b<n):T a b<->Reach E a b:=by
 rw[h a b ha hb,zE (by omega)];exact TH hE
end
end Ci
end
section
namespace Ci
open Classical
section
variable {E:List (Nat×Nat)} {n p q x:Nat}
def Mr(E:List (Nat×Nat)):List (Nat×Nat):=E.map fun e=>(e.2,e.1)
theorem EV:(p,q)∈Mr E<->(q,p)∈E:=by
 unfold Mr;rw[vR];constructor
 .rintro⟨⟨a,b⟩,h,e⟩;simp only[Prod.mk.injEq]at e;rw[<-e.1,<-e.2];exact h
 exact fun h=>⟨(q,p),h,rfl⟩
theorem VI(h:InN n E):InN n (Mr E):=fun x hx=>by
 obtain⟨a,b⟩:=x;have:=h _ (EV.1 hx);exact⟨this.2,this.1⟩
theorem Oh(h:Reach E p q):Reach (Mr E) q p :=
 h.closed (C:=fun x=>Reach (Mr E) x p) (.refl p) fun _ _ ha e=>(Reach.one (EV.2 e)).trans ha
theorem Kc:Reach (Mr E) p q<->Reach E q p:=⟨fun h=>h.closed (C:=fun x=>Reach E x p) (.refl p) fun _ _ ha e=>(Reach.one (EV.1 e)).trans ha,Oh⟩
def PL(E:List (Nat×Nat))(p q x:Nat):Prop:=fst E x<p\/(Mut E p x/\x<q)
noncomputable def lsO(E:List (Nat×Nat))(n p x:Nat):List Nat:=if x<p/\fst E x=x then CR n E x else []
noncomputable def part(E:List (Nat×Nat))(p q:Nat):List Nat:=(List.range q).filter fun y=>decide (Mut E p y)
noncomputable def lsQ(E:List (Nat×Nat))(n p q x:Nat):List Nat:=if x=p then part E p q else lsO E n p x
noncomputable def cO(E:List (Nat×Nat))(p:Nat):Nat:=((List.range p).filter fun y=>decide (fst E y=y)).length
noncomputable def cQ(E:List (Nat×Nat))(p q:Nat):Nat:=if part E p q=[] then cO E p else cO E p+1
theorem Ph(hp:p<n):CR n E p≠[]:=fun h=>by
 have:=CL.2 ⟨hp,Mut.refl (E:=E) p⟩;rw[h]at this
 cases this
theorem Ke:part E p 0=[]:=rfl
theorem Fu:part E p (q+1)=if Mut E p q then part E p q++[q] else part E p q:=by
 unfold part;rw[xo,yQ,zk]
 by_cases h:Mut E p q
 .rw[zF h,zF (zG h)];rfl
 rw[zE h,zE (by rw[zH h];simp)];simp
theorem Ms:part E p n=CR n E p:=rfl
theorem Em:lsQ E n p 0 x=lsO E n p x:=by
 unfold lsQ
 by_cases e:x=p
 .rw[zF e,Ke];unfold lsO;rw[zE (by omega)]
 rw[zE e]
theorem TI(h:¬Mut E p q):lsQ E n p (q+1) x=lsQ E n p q x:=by
 unfold lsQ;rw[Fu,zE h]
theorem TJ(h:Mut E p q):lsQ E n p (q+1) x=if x=p then lsQ E n p q x++[q] else lsQ E n p q x:=by
 unfold lsQ;rw[Fu,zF h]
 by_cases e:x=p
 .rw[zF e,zF e,zF e]
 rw[zE e,zE e,zE e]
theorem Gz:cQ E p 0=cO E p:=zF rfl
theorem VJ(h:¬Mut E p q):cQ E p (q+1)=cQ E p q:=by unfold cQ;rw[Fu,zE h]
theorem VK(h:Mut E p q):cQ E p (q+1)=if lsQ E n p q p=[] then cQ E p q+1 else cQ E p q:=by
 unfold cQ lsQ;rw[Fu,zF h,zE (by simp),zF rfl]
 by_cases e:part E p q=[]
 .rw[zF e,zF e]
 rw[zE e,zE e]
theorem KS(h:¬Mut E p q):PL E p (q+1) x<->PL E p q x:=by
 unfold PL;constructor
 .rintro(a|⟨a,b⟩)
  .exact .inl a
  by_cases e:x=q
  .subst e;exact absurd a h
  exact .inr ⟨a,by omega⟩
 rintro(a|⟨a,b⟩)
 .exact .inl a
 exact .inr ⟨a,by omega⟩
theorem Ic(h:Mut E p q):PL E p (q+1) x<->PL E p q x\/x=q:=by
 unfold PL;constructor
 .rintro(a|⟨a,b⟩)
  .exact .inl (.inl a)
  by_cases e:x=q
  .exact .inr e
  exact .inl (.inr ⟨a,by omega⟩)
 rintro((a|⟨a,b⟩)|e)
 .exact .inl a
 .exact .inr ⟨a,by omega⟩
 subst e;exact .inr ⟨h,by omega⟩
theorem E7:PL E p 0 x<->fst E x<p:=⟨fun h=>h.elim id fun h=>absurd h.2 (yB _),.inl⟩
theorem TK:PL E p 0 p<->fst E p≠p:=by
 have:=Kw (Mut.refl (E:=E) p);rw[E7];omega
theorem Oi(h:fst E p≠p):PL E (p+1) 0 x<->PL E p 0 x:=by
 rw[E7,E7];constructor
 .intro h1
  by_cases e:fst E x=p
  .exact absurd (by rw[<-e,FY]) h
  omega
 omega
theorem KT(h:fst E p=p)(hx:x<n):PL E (p+1) 0 x<->PL E p n x:=by
 rw[E7];unfold PL;constructor
 .intro h1
  by_cases e:fst E x=p
  .exact .inr ⟨HH.1 (by rw[e,h]),hx⟩
  exact .inl (by omega)
 rintro(a|⟨a,_⟩)
 .omega
 have:=FE a;omega
theorem VL(h:fst E p≠p):lsO E n (p+1) x=lsO E n p x:=by
 unfold lsO
 by_cases e:x<p/\fst E x=x
 .rw[zF e,zF ⟨by omega,e.2⟩]
 rw[zE e,zE];rintro⟨a,b⟩
 by_cases c:x=p
 .subst c;exact h b
 exact e ⟨by omega,b⟩
theorem TL(h:fst E p=p):lsO E n (p+1) x=lsQ E n p n x:=by
 unfold lsO lsQ
 by_cases e:x=p
 .subst e;rw[zF rfl,zF ⟨by omega,h⟩,Ms]
 rw[zE e];unfold lsO
 by_cases c:x<p/\fst E x=x
 .rw[zF c,zF ⟨by omega,c.2⟩]
 rw[zE c,zE fun d=>c ⟨by omega,d.2⟩]
theorem Pi:cO E (p+1)=if fst E p=p then cO E p+1 else cO E p:=by
 unfold cO;rw[xo,yQ,zX,zk]
 by_cases h:fst E p=p
 .rw[zF h,zF (zG h)];rfl
 rw[zE h,zE (by rw[zH h];simp)];simp
theorem VN(h:fst E p=p)(hp:p<n):cQ E p n=cO E (p+1):=by
 rw[Pi,zF h];unfold cQ;rw[Ms,zE (Ph hp)]
theorem Xn:cO E n=(leasts n E).length:=rfl
theorem Yo:cO E p<=p:=by
 have:=zy (fun y=>decide (fst E y=y)) (List.range p);rw[yh]at this;exact this
theorem Yp:cQ E p q<=p+1:=by
 unfold cQ;have:=Yo (E:=E) (p:=p)
 split<;>omega
theorem Pj(hx:x<n):lsO E n n x=if x∈leasts n E then CR n E x else []:=by
 unfold lsO
 by_cases h:fst E x=x
 .rw[zF ⟨hx,h⟩,zF (Bw.2 ⟨hx,h⟩)]
 rw[zE fun c=>h c.2,zE fun c=>h (Bw.1 c).2]
theorem Xo(hx:x<n):PL E n 0 x:=E7.2 (G9 hx)
end
end Ci
end
section
open Go.RowKit Go.Shelf
namespace Ci
open Nt
def TM(W:World)(A:Option Addr)(l:List (Option Addr×Nat×List Int)):Prop :=
 0<l.length->∃b off,A=some ⟨b,off,none⟩/\b<W.heap.size/\∀j (h:j<l.length),W.cell? ⟨b,off+j,none⟩=some (.slice l[j].1 l[j].2.2.length l[j].2.1)/\InInt W l[j].1 l[j].2.2/\l[j].2.2.length<=140737488355328
def baR(l:List (Option Addr×Nat×List Int)):List (List Int):=l.map fun x=>x.2.2
end Ci
end
section
open Go.RowKit Go.Shelf
namespace Ci
open Nt
open Classical
structure P1(E:List (Nat×Nat))(n:Nat)(w0:World)(S p q:Nat)(v:Nat->Value)(F:Nat->Int)(wr:World):Prop where
 kp:Kp [S,S+1,S+1+1] w0 wr
 lm:LM wr w0.heap.size S n (cQ E p q) v (lsQ E n p q)
 pl:∃c f,MapK prog 3 κi wr (S+1+1) c f/\c<=1000*p+q/\∀x:Nat,x<n->f (x:Int)=if PL E p q x then some (.bool true) else none
 ro:RoI wr (S+1) n F
 fs:∀x,x<n->PL E p q x->F x=(fst E x:Int)
section
variable {E:List (Nat×Nat)} {n p q S:Nat} {w0 wr w':World} {v:Nat->Value} {F:Nat->Int}
theorem LM.congr{w:World}{B mb c c':Nat}{ls ls':Nat->List Nat}(h:LM w B mb n c v ls)(e:∀x,ls x=ls' x)(ec:c=c'):LM w B mb n c' v ls':=by
 obtain rfl:ls=ls':=funext e;subst ec;exact h
theorem P1.below(h:P1 E n w0 S p q v F wr)(hb:Below wr.heap.size wr w'):P1 E n w0 S p q v F w':=by
 obtain⟨c,f,h1,h2⟩:=h.pl;exact⟨h.kp.below hb,h.lm.below hb,⟨c,f,h1.below hb,h2⟩,h.ro.below hb,h.fs⟩
theorem P1.had(h:P1 E n w0 S p 0 v F wr)(hp:fst E p≠p):P1 E n w0 S (p+1) 0 v F wr:=by
 obtain⟨c,f,h1,h2,h3⟩:=h.pl;refine⟨h.kp,h.lm.congr (fun x=>?_) ?_,⟨c,f,h1,by omega,fun x hx=>?_⟩,h.ro,fun x hx hP=>h.fs x hx ((Oi hp).1 hP)⟩
 .rw[Em,Em,VL hp]
 .rw[Gz,Gz,Pi,zE hp]
 rw[h3 x hx]
 by_cases e:PL E p 0 x
 .rw[zF e,zF ((Oi hp).2 e)]
 rw[zE e,zE fun c=>e ((Oi hp).1 c)]
theorem P1.next(h:P1 E n w0 S p n v F wr)(hp:fst E p=p)(d:p<n)(hn:n<=1000):P1 E n w0 S (p+1) 0 v F wr:=by
 obtain⟨c,f,h1,h2,h3⟩:=h.pl;refine⟨h.kp,h.lm.congr (fun x=>?_) ?_,⟨c,f,h1,by omega,fun x hx=>?_⟩,h.ro,fun x hx hP=>h.fs x hx ((KT hp hx).1 hP)⟩
 .rw[Em,TL hp]
 .rw[Gz,VN hp d]
 rw[h3 x hx]
 by_cases e:PL E p n x
 .rw[zF e,zF ((KT hp hx).2 e)]
 rw[zE e,zE fun c=>e ((KT hp hx).1 c)]
theorem P1.skip(h:P1 E n w0 S p q v F wr)(hm:¬Mut E p q):P1 E n w0 S p (q+1) v F wr:=by
 obtain⟨c,f,h1,h2,h3⟩:=h.pl;refine⟨h.kp,h.lm.congr (fun x=>(TI hm).symm) (VJ hm).symm,⟨c,f,h1,by omega,fun x hx=>?_⟩,h.ro,fun x hx hP=>h.fs x hx ((KS hm).1 hP)⟩;rw[h3 x hx]
 by_cases e:PL E p q x
 .rw[zF e,zF ((KS hm).2 e)]
 rw[zE e,zE fun c=>e ((KS hm).1 c)]
theorem P1.look(h:P1 E n w0 S p 0 v F wr)(d:p<n)(hn:n<=1000):(Instr.lookup 98 (.map (some (S+1+1))) (.int .i64 (p:Int)) false).run prog wr=.ok (.bool (bV (fst E p≠p))) wr:=by
 obtain⟨c,f,h1,_,h3⟩:=h.pl;have:=h1.look FO underlying98 (OX wr) (EB underlying3 (a:=(p:Int)) (by omega) (by omega));rw[this,h3 p d]
 by_cases e:fst E p≠p
 .rw[zF (TK.2 e),Cu e];rfl
 rw[zE fun c=>e (TK.1 c),BR e];rfl
theorem ReachM.look{mb:Nat}{w:World}(h:ReachM w n mb E p)(hq:q<n)(hn:n<=1000):(Instr.lookup 98 (.map (some mb)) (.int .i64 (q:Int)) false).run prog w=.ok (.bool (bV (Reach E p q))) w:=by
 obtain⟨c,f,h1,h3⟩:=h;have:=h1.look FO underlying98 (OX w) (EB underlying3 (a:=(q:Int)) (by omega) (by omega));rw[this,h3 q hq]
 by_cases e:Reach E p q
 .rw[zF e,Cu e];rfl
 rw[zE e,BR e];rfl
theorem ReachM.below{mb:Nat}{w:World}(h:ReachM w n mb E p)(hb:Below w.heap.size w w'):ReachM w' n mb E p:=by
 obtain⟨c,f,h1,h3⟩:=h;exact⟨c,f,h1.below hb,h3⟩
theorem ReachM.kp{mb:Nat}{xs:List Nat}{w:World}(h:ReachM w n mb E p)(hk:Kp xs w w')(hm:mb∉xs):ReachM w' n mb E p:=by
 obtain⟨c,f,h1,h3⟩:=h;exact⟨c,f,h1.kp hk hm,h3⟩
theorem P1.start(E:List (Nat×Nat))(n:Nat)(wS:World)(t:TypeId):
 P1 E n (((wS.alloc (.map #[] 0)).alloc (.cells (madeCells #[.int .i64 0] n) t)).alloc (.map #[] 0)) wS.heap.size 0 0 (fun _=>.slice none 0 0) (fun _=>0) (((wS.alloc (.map #[] 0)).alloc (.cells (madeCells #[.int .i64 0] n) t)).alloc (.map #[] 0)):=by
 have s1:(wS.alloc (.map #[] 0)).heap.size=wS.heap.size+1:=by simp
 have s2:((wS.alloc (.map #[] 0)).alloc (.cells (madeCells #[.int .i64 0] n) t)).heap.size=wS.heap.size+1+1:=by simp
 have hR:=(RoI.made (wS.alloc (.map #[] 0)) n t).alloc (.map #[] 0);rw[s1]at hR;have hM:=MapK.made ((wS.alloc (.map #[] 0)).alloc (.cells (madeCells #[.int .i64 0] n) t)) prog 3 κi;rw[s2]at hM;refine⟨Kp.refl _ _,(((LM.made wS _ n).alloc _).alloc _).congr (fun x=>?_) ?_,⟨0,_,hM,zS _,fun x _=>?_⟩,hR,fun x _ hP=>?_⟩
 .rw[Em];unfold lsO;rw[zE (by omega)]
 .rw[Gz];rfl
 .rw[zE fun c=>by have:=E7.1 c;omega]
 have:=E7.1 hP;omega
theorem P1.step(h:P1 E n w0 S p q v F wr)(ap:w0.heap.size=S+3)(hm:Mut E p q)(ae:p<n)(ao:q<n)(hn:n<=1000)(an:fst E p=p):
 ∃ W1,(Instr.mapUpdate 98 (.map (some (S+1+1))) (.int .i64 (q:Int)) (.bool true)).run prog wr=.ok () W1/\W1.heap.size=W1.heap.size/\RoI W1 (S+1) n F /\
  (∀ W2,W2=W1.setCell ⟨S+1,q,none⟩ (.int .i64 (p:Int))->(Instr.lookup 97 (.map (some S)) (.int .i64 (p:Int)) false).run prog W2=.ok (v p) W2/\wr.heap.size<=W2.heap.size /\
    ∀ W3,W3=W2.alloc (.cells #[.int .i64 (q:Int)] 3)->W3.ownsRow w0.heap.size 3 1 (v p) (lsQ E n p q p).length (Bv (lsQ E n p q p)) /\
     ∀ vb wb,wb.ownsRow w0.heap.size 3 1 vb ((lsQ E n p q p).length+1) (Bv (lsQ E n p q p)++[.int .i64 (q:Int)])->W3.grownBy wb (v p).ownBlock->(vb.ownBlock=(v p).ownBlock\/vb.ownBlock=some W3.heap.size) ->
      ∃ W4,(Instr.mapUpdate 97 (.map (some S)) (.int .i64 (p:Int)) vb).run prog wb=.ok () W4/\P1 E n w0 S p (q+1) (fun i=>if i=p then vb else v i) (Er F q (p:Int)) W4 /\
       (∀w6,Kp [S,S+1,S+1+1] w6 wr->(∀b,(v p).ownBlock=some b->w6.heap.size<=b)->Kp [S,S+1,S+1+1] w6 W4/\∀b,vb.ownBlock=some b->w6.heap.size<=b)):=by
 obtain⟨c,f,h1,h2,h3⟩:=h.pl;obtain⟨W1,aj,ak,ad⟩:=h1.put GF FO underlying98 (by unfold maxLen;omega) (EB underlying3 (a:=(q:Int)) (by omega) (by omega)) (.bool true);have d:∀x b,x<n->(v x).ownBlock=some b->w0.heap.size<=b:=fun x b hx e=>((h.lm.rows x hx).lt b e).1
 have hL1:LM W1 w0.heap.size S n (cQ E p q) v (lsQ E n p q):=h.lm.grown ad (by simp;omega) fun x b hx e e2=>by
  have:=d x b hx e
  cases e2;omega
 have ah:RoI W1 (S+1) n F:=h.ro.grown ad (by simp);refine⟨W1,aj,rfl,ah,?_⟩;rintro W2 rfl
 have hL2:=hL1.set (a:=⟨S+1,q,none⟩) (.int .i64 (p:Int)) (by simp) fun x hx e=>by
  have:=d x _ hx e;simp only at this;omega
 have am:=ah.set ao (p:Int);have al:=ak.set (a:=⟨S+1,q,none⟩) (by simp) (.int .i64 (p:Int));refine⟨hL2.look ae hn,by have:=ad.size;simpa using this,?_⟩;rintro W3 rfl;have hL3:=hL2.alloc (.cells #[.int .i64 (q:Int)] 3);refine⟨hL3.rows p ae,fun vb wb ho hg aa=>?_⟩;have hc:=Yp (E:=E) (p:=p) (q:=q);obtain⟨W4,ag,hL4,af⟩:=hL3.step ae hn (by unfold maxLen;omega) hg ho aa;have hS:∀b,(v p).ownBlock=some b->S+1+1<b:=fun b e=>by have:=d p b ae e;omega
 refine⟨W4,ag,⟨?_,hL4.congr (fun x=>?_) ?_,⟨if (f (q:Int)).isSome then c else c+1,Iu f (q:Int) (some (.bool true)),?_,?_,fun x hx=>?_⟩,?_,fun x hx hP=>?_⟩,fun w6 hk ai=>⟨?_,fun b e=>?_⟩⟩
 .exact((((h.kp.grown ad fun b e=>by cases e;simp).set (a:=⟨S+1,q,none⟩) _ (by simp)).alloc _).grown hg fun b e=>.inr (d p b ae e)).grown af fun b e=>by cases e;simp
 .rw[TJ hm];rfl
 .rw[VK (n:=n) hm]
 .exact((al.alloc _).kept hg fun e=>by have:=hS _ e.symm;omega).kept af (by simp;omega)
 .split<;>omega
 .by_cases e:x=q
  .subst e;rw[Be,zF ((Ic hm).2 (.inr rfl))]
  rw[Bh (fun c=>e (by omega)),h3 x hx]
  by_cases e2:PL E p q x
  .rw[zF e2,zF ((Ic hm).2 (.inl e2))]
  rw[zE e2,zE fun c=>((Ic hm).1 c).elim e2 e]
 .exact((am.alloc _).grown hg fun e=>by have:=hS _ e;omega).grown af (by simp)
 .by_cases e:x=q
  .subst e;rw[Bb,<-FE hm,an]
  rw[AI e];exact h.fs x hx (((Ic hm).1 hP).elim id fun c=>absurd c e)
 .exact((((hk.grown ad fun b e=>by cases e;simp).set (a:=⟨S+1,q,none⟩) _ (by simp)).alloc _).grown hg fun b e=>.inr (ai b e)).grown af fun b e=>by cases e;simp
 rcases aa with aa|aa
 .exact ai b (by rw[<-aa,e])
 rw[e]at aa;have h1:=hk.size;have h2:=ad.size;simp only[Option.some.injEq,zV,World.size_setCell]at aa;omega
end
structure P2(E:List (Nat×Nat))(n:Nat)(w7:World)(S:Nat)(v:Nat->Value)(pre left:List Nat)(vo:Value)(wr:World):Prop where
 st:Stage n E pre left
 kp:Kp [S] w7 wr
 mp:∃f,MapK prog 3 κi wr S left.length f/\∀x:Nat,x<n->f (x:Int)=if x∈left then some (v x) else none
 o:wr.ownsRow w7.heap.size 37 1 vo pre.length (pre.map v)
section
variable {E:List (Nat×Nat)} {n p q S:Nat} {w0 w7 wr w':World} {v:Nat->Value} {F:Nat->Int} {pre left:List Nat} {vo:Value}
theorem P2.start(h:P1 E n w0 S n 0 v F w7)(hE:InN n E):P2 E n w7 S v [] (leasts n E) (.slice none 0 0) w7:=by
 obtain⟨f,h1,h2⟩:=h.lm.map;rw[Gz,Xn]at h1;refine⟨Stage.start hE,Kp.refl _ _,⟨f,h1,fun x hx=>?_⟩,yf _ _ _ _⟩;rw[h2 x hx,Em,Pj hx]
 by_cases e:x∈leasts n E
 .rw[zF e,zF e,zE (Ph hx)]
 rw[zE e,zE e,zF rfl]
theorem P2.pre_nodup(h:P2 E n w7 S v pre left vo wr)(hE:InN n E):pre.Nodup:=by
 have h1:=IA hE;rw[h.st.eq]at h1;exact(List.nodup_append.1 h1).1
theorem P2.len(h:P2 E n w7 S v pre left vo wr)(ty:TypeId):(Builtin.len_ #[97] ty #[.map (some S)]).run prog wr=.ok (.int .i64 (left.length:Int)) wr:=by
 obtain⟨f,h1,_⟩:=h.mp;exact h1.len underlying97 ty
theorem P2.look(h:P2 E n w7 S v pre left vo wr)(hp:p<n)(hn:n<=1000):(Instr.lookup 97 (.map (some S)) (.int .i64 (p:Int)) true).run prog wr=.ok (.tuple #[if p∈left then v p else .slice none 0 0,.bool (bV (p∈left))]) wr:=by
 obtain⟨f,h1,h2⟩:=h.mp;have:=h1.look_ok FO underlying97 (Tz wr) (EB underlying3 (a:=(p:Int)) (by omega) (by omega));rw[this,h2 p hp]
 by_cases e:p∈left
 .rw[zF e,zF e,Cu e];rfl
 rw[zE e,zE e,BR e];rfl
theorem P2.step(h:P2 E n w7 S v pre left vo wr)(hp:Fy E left=some p)(ah:p<n)(hn:n<=1000)(hS:S<w7.heap.size):
 (wr.alloc (.cells #[v p] 37)).ownsRow w7.heap.size 37 1 vo pre.length (pre.map v)/\w7.heap.size<=(wr.alloc (.cells #[v p] 37)).heap.size /\
 ∀ vb wb,wb.ownsRow w7.heap.size 37 1 vb (pre.length+1) (pre.map v++[v p])->(wr.alloc (.cells #[v p] 37)).grownBy wb vo.ownBlock ->
  ∃W4,(Builtin.delete_ #[97,3] 0 #[.map (some S),.int .i64 (p:Int)]).run prog wb=.ok (.tuple #[]) W4/\P2 E n w7 S v (pre++[p]) (left.erase p) vb W4:=by
 have hs:=h.kp.size;obtain⟨ad,_,_⟩:=Cz h.st.ok hp;obtain⟨f,h1,h2⟩:=h.mp;have af:∀b,vo.ownBlock=some b->w7.heap.size<=b:=fun b e=>(h.o.lt b e).1;refine⟨AC h.o ((zI _ wr).alloc (zB _) _),by simp;omega,fun vb wb ho hg=>?_⟩;have ag:∀b,vo.ownBlock=some b->b≠S:=fun b e c=>by have:=af b e;omega
 have hM:=(h1.alloc (.cells #[v p] 37)).kept hg fun e=>ag S e.symm rfl;obtain⟨W4,ae,d,aa⟩:=hM.del GF FO underlying97 (EB underlying3 (a:=(p:Int)) (by omega) (by omega)) 0
 have hc:(if (f (p:Int)).isSome then left.length-1 else left.length)=(left.erase p).length:=by
  rw[h2 p ah,zF ad,xD ad];rfl
 rw[hc]at d;refine⟨W4,ae,h.st.step hp,?_,⟨_,d,fun x hx=>?_⟩,?_⟩
 .exact((h.kp.alloc _).grown hg fun b e=>.inr (af b e)).grown aa fun b e=>by cases e;simp
 .by_cases e:x=p
  .subst e;rw[Be,zE fun c=>(h.st.ok.nodup.mem_erase_iff.1 c).1 rfl]
  rw[Bh (fun c=>e (by omega)),h2 x hx]
  by_cases e2:x∈left
  .rw[zF e2,zF ((List.mem_erase_of_ne e).2 e2)]
  rw[zE e2,zE fun c=>e2 ((List.mem_erase_of_ne e).1 c)]
 rw[zX,yD];refine ho.kept aa ?_
 cases hu:vb.ownBlock with
 |none=>exact .inl rfl
 |some b=>exact .inr fun e=>(by have:=(ho.lt b hu).1;cases e;omega)
def slA:Value->Option Addr
 |.slice a _ _=>a
 |_=>none
def slC:Value->Nat
 |.slice _ _ c=>c
 |_=>0
noncomputable def B9(E:List (Nat×Nat))(n:Nat)(v:Nat->Value)(pre:List Nat):List (Option Addr×Nat×List Int):=pre.map fun p=>(slA (v p),slC (v p),(CR n E p).map fun(q:Nat)=>(q:Int))
theorem QH:baR (B9 E n v pre)=pre.map fun p=>(CR n E p).map fun(q:Nat)=>(q:Int):=by
 unfold baR B9;rw[xz];rfl
theorem Kf{W:World}{base:Nat}{e:TypeId}{u:Value}{l:List Nat}(h:W.ownsRow base e 1 u l.length (Bv l)):u=.slice (slA u) l.length (slC u)/\InInt W (slA u) (l.map fun(q:Nat)=>(q:Int)):=by
 rcases D3 h with⟨rfl,rfl⟩|⟨g,cap,rfl,_,h1,_,h2⟩
 .exact⟨rfl,fun h=>absurd h (by simp)⟩
 refine⟨rfl,fun _=>⟨g,0,rfl,h1,fun j hj=>?_⟩⟩;have d:j<l.length:=by simpa using hj
 rw[yS,h2 j d];simp
theorem TN{W:World}{base base2 c:Nat}{A:Option Addr}(hn:n<=1000)(h:W.ownsRow base 37 1 (.slice A pre.length c) pre.length (pre.map v))(hr:∀p,p∈pre->W.ownsRow base2 3 1 (v p) (CR n E p).length (Bv (CR n E p))):TM W A (B9 E n v pre):=fun h0=>by
 have hl:(B9 E n v pre).length=pre.length:=by simp[B9]
 rw[hl]at h0
 rcases h.2 with⟨_,h1⟩|⟨g,cap,cur,e,hb,hg,_⟩
 .omega
 injection e with e1 _ _;subst e1;refine⟨g,0,rfl,(Array.getElem?_eq_some_iff.1 hg).1,fun j hj=>?_⟩;have d:j<pre.length:=by omega
 have hc:=h.cells (g:=g) (by simp[Value.ownBlock]) j (v pre[j]) (by simp[d]);rw[Addr.add_lit]at hc;have aa:=Kf (hr pre[j] (zO d));have he:(B9 E n v pre)[j]=(slA (v pre[j]),slC (v pre[j]),(CR n E pre[j]).map fun(q:Nat)=>(q:Int)):=by simp[B9]
 rw[he];refine⟨?_,aa.2,?_⟩
 .rw[hc];simp only[zW];rw[<-aa.1]
 simp only[zW];unfold CR;have h:=zy (fun q=>decide (Mut E pre[j] q)) (List.range n);rw[yh]at h;omega
end
end Ci
end
section
open Go.RowKit Go.Shelf
namespace Ci
open Nt
open Classical
noncomputable def DW(s:SR):List (List Int):=(Ax s.ps.length (Ah s)).map fun l=>l.map fun(q:Nat)=>(q:Int)
def Oj(s:SR)(w:World)(e:Ending)(w':World):Prop :=
 (if Ak s=true then ∃A c l,e=.returned (.tuple #[.slice A l.length c,.int .i64 0])/\TM w' A l/\baR l=DW s
   else e=.returned (.tuple #[.slice none 0 0,.int .i64 1]))/\Below w.heap.size w w'
theorem IL(s:SR)(Ap Ac Av:Option Addr)(cp cc cv:Nat)(w:World)(hE:Env w)(hs:StIn w s Ap Ac Av)(cr:s.cap.length<=300):
 Calls prog 14 #[.agg #[.slice Ap s.ps.length cp,.slice Ac s.cap.length cc,.slice Av s.vot.length cv]] w (Oj s w):=by
 have ar:Hid (Bk (w.alloc (.cells #[.slice Ap s.ps.length cp,.slice Ac s.cap.length cc,.slice Av s.vot.length cv] 32)) w.heap.size 32 (SC s Ap Ac Av cp cc cv)):=Bk.new w _ _;have an:Hid (Below w.heap.size w (w.alloc (.cells #[.slice Ap s.ps.length cp,.slice Ac s.cap.length cc,.slice Av s.vot.length cv] 32))):=(zI _ w).alloc (zB _) _;have b3:=@run_makeMap prog;have u0:=ar.o.c0;have u1:=ar.o.c1;have u2:=ar.o.c2;have u9:=ar.o.lt;obtain⟨wa,bE⟩:∃x,x=w.alloc (.cells #[.slice Ap s.ps.length cp,.slice Ac s.cap.length cc,.slice Av s.vot.length cv] 32):=⟨_,rfl⟩;have ks:=Dk s Ap Ac Av cp cc cv (w.alloc (.cells #[.slice Ap s.ps.length cp,.slice Ac s.cap.length cc,.slice Av s.vot.length cv] 32)) (hE.below an.o) (hs.below an.o);have b8:(w.alloc (.cells #[.slice Ap s.ps.length cp,.slice Ac s.cap.length cc,.slice Av s.vot.length cv] 32)).heap.size=w.heap.size+1:=by simp
 rw[<-bE]at ar an u0 u1 u2 u9 ks b8
 cases am:Ak s with
 |false=>
  have bJ:Hid (∀e w',e=.returned (.tuple #[.slice none 0 0,.int .i64 1])->Below w.heap.size w w'->Oj s w e w'):=fun e w' h2 h3=>⟨by rw[zE (by rw[am];simp)];exact h2,h3⟩;rw[am]at ks;replace ks:=zh ks;replace hs:=zh hs;clear b3;subst bE;go_enter func14,ntmps14
  go_wp2_with fail
  refine ks.o.q fun w2 hb=>?_;have aA:=an.t hb;clear hb;go_wp2;go_ret2;exact bJ.o _ _ rfl aA.o
 |true=>
  have cJ:s.ps.length<=60:=by
   have h:=am;unfold Ak at h;simp only[zr,yC]at h;exact h.2.1
  have ct:Hid (∀x,x∈s.cap->(0<=x.1/\x.1<s.ps.length)/\(0<=x.2.1/\x.2.1<s.ps.length)):=fun x hx=>by
   have h:=am;unfold Ak at h;simp only[zr]at h;obtain⟨i,hi,rfl⟩:=zi hx;exact⟨(DH h.2.2.1 hi).1.1,(DH h.2.2.1 hi).1.2.1⟩
  have aa:=zh (LD am);have bn:Hid (∀e w' A c k l,e=.returned (.tuple #[.slice A k c,.int .i64 0])->k=List.length l->TM w' A l->baR l=DW s->Below w.heap.size w w'->Oj s w e w'):=fun e w' A c k l h1 hk h2 h3 h4=>⟨by rw[zF am];exact⟨A,c,l,by rw[<-hk];exact h1,h2,h3⟩,h4⟩;rw[am]at ks;replace ks:=zh ks;replace hs:=zh hs;replace am:=zh am;have cA:=vE (P:=prog) 37 3 (.int .i64 0) 8 underlying37 GV rfl .i64 .i64 s.ps.length (by omega) (by omega);have bz:=zh (fun w2 h=>Tx s Ap Ac Av cp cc cv w2 h (by omega) cr ct.o)
  have br:Hid (∀p,(Cs (Ah s) (Ah s).length p).length<=300):=fun p=>by
   unfold Cs;rw[zW];have h1:=zy (fun x:Nat×Nat=>decide (x.1=p)) ((Ah s).take (Ah s).length);have h2:((Ah s).take (Ah s).length).length<=(Ah s).length:=vO _ _;have h3:(Ah s).length=s.cap.length:=by simp[Ah]
   omega
  have aj:Hid (∀p q,q∈Cs (Ah s) (Ah s).length p<->(p,q)∈Ah s):=fun _ _=>Ma
  have bb:Hid (DW s=(ords s.ps.length (Ah s)).map fun p=>(CR s.ps.length (Ah s) p).map fun(q:Nat)=>(q:Int)):=by
   unfold Hid DW Ax;rw[xz];rfl
  obtain⟨E,bK⟩:∃E,E=Ah s:=⟨_,rfl⟩;obtain⟨adj,aJ⟩:∃a,a=Cs (Ah s) (Ah s).length:=⟨_,rfl⟩;rw[<-aJ]at bz br aj;rw[<-bK]at aa aj bb;clear bK aJ;obtain⟨i0,bv,cg⟩:=Option.map_eq_some_iff.1 GV;simp only[Prod.mk.injEq]at cg;obtain⟨aE,bF,ax⟩:=cg;replace bv:=zh bv;replace aE:=zh aE;replace bF:=zh bF;replace ax:=zh ax;subst bE;go_enter func14,ntmps14
  go_wp2_with fail
  refine ks.o.q fun w2 hb=>?_;have aA:=an.t hb;have aI:=zh (ar.o.below hb);have kg:=zh (bz.o w2 (hs.o.below aA.o));clear hb ks an ar u0 u1 u2 u9 bz;have u0:=aI.o.c0;have u1:=aI.o.c1;have u2:=aI.o.c2;have u9:=aI.o.lt
  go_wp2_with fail
  refine kg.o.mono ?_;rintro e w3 ⟨⟨R,vg,rfl,hG⟩,hb⟩;have bi:=aA.t hb;clear hb kg aA aI u0 u1 u2 u9;have kt:=zh (NW R s.ps.length w2.heap.size vg adj w3 (by omega) (fun p _=>by have:=br.o p;omega) (fun p q _ h=>(aa.o _ ((aj.o p q).1 h)).2) hG);replace hG:=zh hG
  go_wp2_with fail
  refine kt.o.mono ?_;rintro e w4 ⟨⟨R2,vb,T,rfl,aC,hT⟩,hb⟩;have aB:=bi.t hb;have aT:=zh (hG.o.below hb)
  have bQ:Hid (∀p q,p<s.ps.length->(q∈T p<->(p,q)∈Mr E)):=fun p q hp=>by
   rw[hT.1 p q hp,EV,<-aj.o];constructor
   .rintro(⟨_,h⟩|⟨_,h⟩)
    .exact h
    simp at h
   intro h;exact .inl ⟨(aa.o _ ((aj.o q p).1 h)).1,h⟩
  have bP:Hid (∀p,(T p).length<=60000):=fun p=>by have:=hT.2 p;omega
  replace aC:=zh aC;clear hb kt bi hG hT;have aV:=zh (P1.start E s.ps.length w4 3);have bj:Hid (Below w.heap.size w (((w4.alloc (.map #[] 0)).alloc (.cells (madeCells #[.int .i64 0] s.ps.length) 3)).alloc (.map #[] 0))):=((aB.o.alloc aB.o.size _).alloc (by have:=aB.o.size;simp;omega) _).alloc (by have:=aB.o.size;simp;omega) _;have bk:Hid (Below w4.heap.size w4 (((w4.alloc (.map #[] 0)).alloc (.cells (madeCells #[.int .i64 0] s.ps.length) 3)).alloc (.map #[] 0))):=(((zI _ w4).alloc (zB _) _).alloc (by simp) _).alloc (by simp<;>omega) _;have ae:Hid ((((w4.alloc (.map #[] 0)).alloc (.cells (madeCells #[.int .i64 0] s.ps.length) 3)).alloc (.map #[] 0)).heap.size=w4.heap.size+3):=by unfold Hid;simp
  have ah:Hid (R<w4.heap.size/\R2<w4.heap.size/\(∀i b,i<s.ps.length->(vg i).ownBlock=some b->b<w4.heap.size)/\(∀i b,i<s.ps.length->(vb i).ownBlock=some b->b<w4.heap.size)) :=
   ⟨aT.o.lt,aC.o.lt,fun i b hi e=>((aT.o.rows i hi).lt b e).2,fun i b hi e=>((aC.o.rows i hi).lt b e).2⟩
  have bm:=zh (aT.o.below bk.o);have aU:=zh (aC.o.below bk.o);have cn:w.heap.size<=w4.heap.size:=aB.o.size;go_wp2;obtain⟨w0,cd⟩:∃x,x=(((w4.alloc (.map #[] 0)).alloc (.cells (madeCells #[.int .i64 0] s.ps.length) 3)).alloc (.map #[] 0)):=⟨_,rfl⟩;rw[<-cd]at aV bj ae bm aU ⊢;obtain⟨S,hS⟩:∃x,x=w4.heap.size:=⟨_,rfl⟩;rw[<-hS]at aV ae ah cn ⊢;clear cA b3 bk aT aC cd hS aB
  go_loopw [37] (fun ix wr=>∃(p:Nat)(v:Nat->Value)(F:Nat->Int),p<=s.ps.length/\ix=.int .i64 (p:Int)/\Hid (P1 E s.ps.length w0 S p 0 v F wr)) (fun ix _=>s.ps.length-(intOf ix).toNat)
  case atStart=>exact⟨0,_,_,zS _,rfl,aV⟩
  case round=>
   obtain⟨p,v,F,hp,rfl,hP⟩:=hrel;clear aV
   by_cases hpn:p<s.ps.length
   .have ai:=hP.o.look hpn (by omega);have p0:(0:Int)<=(p:Int):=by omega
    have p1:(p:Int)<(s.ps.length:Int):=by omega
    by_cases hfp:fst E p=p
    .rw [BR (fun c=>c hfp)]at ai;have ak:=bm.o.kp hP.o.kp (by have:=ah.o.1;simp;omega) (fun i b hi e=>by have:=ah.o.2.2.1 i b hi e;simp;omega);have k1:=zh (Hu E R s.ps.length _ p vg adj wr (by omega) (fun x q _=>aj.o x q) aa.o (fun x _=>by have:=br.o x;omega) hpn ak);replace hfp:=zh hfp;clear ak
     go_wp2_with fail
     refine k1.o.mono ?_;rintro e w5 ⟨⟨m1,rfl,cy,ay⟩,hb⟩;have aW:=zh (hP.o.below hb);have cH:S+3<=m1:=by have:=hP.o.kp.size;have:=ae.o;omega
     clear hb cy hP k1 ai;have ak:=aU.o.kp aW.o.kp (by have:=ah.o.2.1;simp;omega) (fun i b hi e=>by have:=ah.o.2.2.2 i b hi e;simp;omega);have k2:=zh (Hu (Mr E) R2 s.ps.length _ p vb T w5 (by omega) (fun x q hx=>bQ.o x q hx) (VI aa.o) (fun x _=>by have:=bP.o x;omega) hpn ak);replace ay:=zh ay;clear ak
     go_wp2_with fail
     refine k2.o.mono ?_;rintro e w6 ⟨⟨m2,rfl,cz,aH⟩,hb⟩;have bp:=zh (aW.o.below hb);have bq:=zh (ay.o.below hb);have cI:S+3<=m2:=by have:=aW.o.kp.size;have:=ae.o;omega
     replace aH:=zh aH;clear hb cz aW ay k2
     have cb:Hid (∀b,(v p).ownBlock=some b->w6.heap.size<=b):=fun b e=>by
      rw[bp.o.lm.nil p hpn (by unfold lsQ;rw[zF rfl,Ke])]at e
      cases e
     have bN:Hid (Kp [S,S+1,S+1+1] w6 w6):=Kp.refl _ _;go_wp2
     go_loopw [51] (fun ix wz=>∃(q:Nat)(v2:Nat->Value)(F2:Nat->Int),q<=s.ps.length/\ix=.int .i64 (q:Int)/\Hid (P1 E s.ps.length w0 S p q v2 F2 wz)/\Hid (Kp [S,S+1,S+1+1] w6 wz)/\Hid (∀b,(v2 p).ownBlock=some b->w6.heap.size<=b)) (fun ix _=>s.ps.length-(intOf ix).toNat)
     case atStart=>exact⟨0,v,F,zS _,rfl,bp,bN,cb⟩
     case round=>
      obtain⟨q,v2,F2,hq,rfl,hP,hK,hv⟩:=hrel;clear bp bN cb
      by_cases al:q<s.ps.length
      .have bw:=(bq.o.kp hK.o (by simp;omega)).look al (by omega);have bx:=(aH.o.kp hK.o (by simp;omega)).look al (by omega);have q0:(0:Int)<=(q:Int):=by omega
       have q1:(q:Int)<(s.ps.length:Int):=by omega
       by_cases hr1:Reach E p q
       .rw [Cu hr1]at bw
        by_cases hr2:Reach E q p
        .rw [Cu (Kc.2 hr2)]at bx;obtain⟨W1,cC,_,aX,aw⟩:=hP.o.step ae.o ⟨hr1,hr2⟩ hpn al (by omega) hfp.o;obtain⟨ao,b9,bc⟩:=aw _ rfl;obtain⟨d,az⟩:=bc _ rfl;have c1:=aX.cell q al;have c2:=aX.fr q;have c3:=aX.lt
         have had:Hid (∀j u,[(Value.int .i64 (q:Int))][j]? = some u->((W1.setCell ⟨S+1,q,none⟩ (.int .i64 (p:Int))).alloc (.cells #[.int .i64 (q:Int)] 3)).cell? (Addr.add ⟨W1.heap.size,0,none⟩ j)=some u):=by
          have h:=BO (W1.setCell ⟨S+1,q,none⟩ (.int .i64 (p:Int))) (.int .i64 (q:Int)) 3
          rwa [World.size_setCell]at h
         have b2:Hid ((lsQ E s.ps.length p q p).length<=100):=by
          unfold Hid lsQ;rw[zF rfl];unfold part;have h:=zy (fun y=>decide (Mut E p y)) (List.range q);rw[yh]at h;omega
         have cq:Hid (w0.heap.size<=((W1.setCell ⟨S+1,q,none⟩ (.int .i64 (p:Int))).alloc (.cells #[.int .i64 (q:Int)] 3)).heap.size):=by
          have h1:=hP.o.kp.size;unfold Hid;rw[zV];omega
         obtain⟨vp,ag⟩:∃x,x=v2 p:=⟨_,rfl⟩;rw[<-ag]at ao d az;rw[<-ag]at hv;replace ag:=zh ag;replace d:=zh d;replace az:=zh az;clear hP aw bc aX hr1 hr2 b9
         go_wp2_with (at_builtin;refine wpList_append_new _ rfl _ _ 37 rfl w0.heap.size 3 i0 (.int .i64 0) 1 8 underlying37 bv.o aE.o bF.o ax.o rfl (by decide) vp _ _ rfl d.o ⟨W1.heap.size,0,none⟩ 1 1 [.int .i64 (q:Int)] rfl rfl had.o (AQ _ rfl) (by decide) (by have:=b2.o;unfold maxLen;omega) (by have:=b2.o;omega) cq.o ?_;intro bH bI aD aM a2;obtain⟨W4,bB,aq,bM⟩:=az.o bH bI aD aM (by simpa using a2);obtain⟨bo,bC⟩:=bM w6 hK.o hv.o;replace aq:=zh aq;replace bo:=zh bo;replace bC:=zh bC;clear aD aM a2 bM)
         exact⟨⟨q+1,_,_,by omega,by go_num,aq,bo,fun b e=>bC.o b (by simpa using e)⟩,by simp only[intOf];omega⟩
        rw[BR (fun c=>hr2 (Kc.1 c))]at bx;have ap:=zh (hP.o.skip fun c=>hr2 c.2);clear hP hr1 hr2;go_wp2;exact⟨⟨q+1,v2,F2,by omega,by go_num,ap,hK,hv⟩,by simp only[intOf];omega⟩
       rw[BR hr1]at bw;have ap:=zh (hP.o.skip fun c=>hr1 c.1);clear hP hr1 bx;go_wp2;exact⟨⟨q+1,v2,F2,by omega,by go_num,ap,hK,hv⟩,by simp only[intOf];omega⟩
      obtain rfl:q=s.ps.length:=by omega
      have ap:=zh (hP.o.next hfp.o hpn (by omega));clear hP;go_wp2;exact⟨⟨p+1,v2,F2,by omega,by go_num,ap⟩,by simp only[intOf];omega⟩
    rw[Cu hfp]at ai;have ap:=zh (hP.o.had hfp);clear hfp hP;go_wp2;exact⟨⟨p+1,v,F,by omega,by go_num,ap⟩,by simp only[intOf];omega⟩
   obtain rfl:p=s.ps.length:=by omega
   obtain⟨w7,cD⟩:∃x,x=wr:=⟨_,rfl⟩;subst cD;have bO:=zh (P2.start hP.o aa.o);have hF:Hid (∀x,x<s.ps.length->F x=(fst E x:Int)):=fun x hx=>hP.o.fs x hx (Xo hx);have a4:=zh hP.o.ro
   have av:Hid (∀x,x∈leasts s.ps.length E->w7.ownsRow w0.heap.size 3 1 (v x) (CR s.ps.length E x).length (Bv (CR s.ps.length E x))):=fun x hx=>by
    have cf:=(Bw.1 hx).1;have h:=hP.o.lm.rows x cf
    rwa [Em,Pj cf,zF hx]at h
   have bL:=zh (aU.o.kp hP.o.kp (by have:=ah.o.2.1;simp;omega) (fun i b hi e=>by have:=ah.o.2.2.2 i b hi e;simp;omega));have ch:Hid (Below w.heap.size w w7):=hP.o.kp.to_below bj.o fun x hx=>by simp at hx;omega
   have cm:S<w7.heap.size:=by have:=hP.o.kp.size;have:=ae.o;omega
   have af:Hid (R2∉[S]/\(∀i b,i<s.ps.length->(vb i).ownBlock=some b->b∉[S])/\S+1∉[S]/\∀x b,x∈leasts s.ps.length E->(v x).ownBlock=some b->b∉[S]):=by
    refine⟨by have:=ah.o.2.1;simp;omega,fun i b hi e=>by have:=ah.o.2.2.2 i b hi e;simp;omega,by simp,fun x b hx e=>?_⟩;have h1:=((av.o x hx).lt b e).1;have h2:=ae.o;simp;omega
   clear hP aU bm ah bj ae;go_wp2
   go_loopg [13] (leasts s.ps.length E).length (fun m u wz=>∃(A:Option Addr)(c:Nat)(pre left:List Nat),m=left.length/\u=.slice A pre.length c/\Hid (P2 E s.ps.length w7 S v pre left (.slice A pre.length c) wz))
   case atStart=>exact⟨none,0,[],_,rfl,rfl,bO⟩
   case round=>
    obtain⟨A,c,pre,left,hm,rfl,hP⟩:=hrel;clear bO;have b0:=hP.o.len 3
    by_cases hl0:left=[]
    .subst hl0;have b5:Hid (ords s.ps.length E=pre):=hP.o.st.end
     have ad:Hid (∀x,x∈pre->x∈leasts s.ps.length E):=fun x hx=>by
      have:=hP.o.st.had x hx;exact Bw.2 ⟨this.1,this.2.1⟩
     have ck:=zh (TN (E:=E) (n:=s.ps.length) (by omega) hP.o.o fun p hp=>T0 (av.o p (ad.o p hp)) hP.o.kp fun b e=>af.o.2.2.2 p b (ad.o p hp) e);have ci:Hid (Below w.heap.size w wr):=hP.o.kp.to_below ch.o fun x hx=>by simp at hx;omega
     have cx:Hid (pre.length=(B9 E s.ps.length v pre).length):=by unfold Hid B9;simp
     clear hm hP;go_wp2;go_ret2;exact bn.o _ _ A c _ _ rfl cx.o ck.o (by rw[QH,bb.o,b5.o]) ci.o
    have bw:0<(left.length:Int):=by have:=List.length_pos_iff.2 hl0;omega
    have a9:Hid (∀x,x<0->x∈left->¬FF E left x):=fun x hx=>absurd hx (yB _)
    have au:Hid (∀x,x∈left->x<s.ps.length/\x∈leasts s.ps.length E):=fun x hx=>by
     have:=hP.o.st.ok.own x hx;exact⟨this.1,Bw.2 this⟩
    go_wp2;go_step3;go_wp2;go_step3;go_wp2
    go_loopw [13,83] (fun u ix wz=>∃p:Nat,p<=s.ps.length/\u=.slice A pre.length c/\ix=.int .i64 (p:Int)/\wz=wr/\Hid (∀x,x<p->x∈left->¬FF E left x)) (fun _ ix _=>s.ps.length-(intOf ix).toNat)
    case atStart=>exact⟨0,zS _,rfl,rfl,rfl,a9⟩
    case round=>
     clear a9 b0;obtain⟨p,hp,rfl,rfl,aR,a3⟩:=hrel;subst aR
     by_cases hpn:p<s.ps.length
     .have ai:=hP.o.look hpn (by omega);have p0:(0:Int)<=(p:Int):=by omega
      have p1:(p:Int)<(s.ps.length:Int):=by omega
      by_cases ad:p∈left
      .rw [zF ad,Cu ad]at ai;obtain⟨ag,aQ⟩:=Kf (T0 (av.o p (au.o p ad).2) hP.o.kp fun b e=>af.o.2.2.2 p b (au.o p ad).2 e);rw[ag]at ai;have cK:=zh hpn
       have bW:Hid ((CR s.ps.length E p).length<=s.ps.length):=by
        unfold Hid CR;have h:=zy (fun q=>decide (Mut E p q)) (List.range s.ps.length)
        rwa [yh]at h
       have bU:Hid (∀q,q∈CR s.ps.length E p->q<s.ps.length/\Mut E p q):=fun q hq=>CL.1 hq;have bX:Hid ((∀q,q∈CR s.ps.length E p->∀h,(h,q)∈E->fst E h∈left->fst E h=p)->FF E left p):=fun h=>(Lt aa.o).2 h;have b4:Hid (∀h q,q∈CR s.ps.length E p->(h,q)∈E->fst E h∈left->fst E h≠p->¬FF E left p):=fun h q hq he hl cB cj=>cB ((Lt aa.o).1 cj q hq h he hl);obtain⟨cmp,aL⟩:∃x,x=CR s.ps.length E p:=⟨_,rfl⟩;rw[<-aL]at ai ag aQ bW bU bX b4;obtain⟨Ap2,aF⟩:∃x,x=slA (v p):=⟨_,rfl⟩;obtain⟨be,a8⟩:∃x,x=slC (v p):=⟨_,rfl⟩;rw[<-aF,<-a8]at ai ag;rw[<-aF]at aQ;have bS:Hid (∀q,q∈cmp.take 0->∀h,(h,q)∈E->fst E h∈left->fst E h=p):=fun q hq=>by simp at hq
       replace ag:=zh ag;replace aQ:=zh aQ;replace aL:=zh aL;clear aF a8;go_wp2
       go_loopw [96] (fun ix wz=>∃j:Nat,j<=cmp.length/\ix=.int .i64 (j:Int)/\wz=wr/\Hid (∀q,q∈cmp.take j->∀h,(h,q)∈E->fst E h∈left->fst E h=p)) (fun ix _=>cmp.length-(intOf ix).toNat)
       case atStart=>exact⟨0,zS _,rfl,rfl,bS⟩
       case round=>
        clear bS ai;obtain⟨j,hj,rfl,aR,aY⟩:=hrel;subst aR
        by_cases hjl:j<cmp.length
        .obtain ⟨gp,op,rfl,cM,a0⟩:=aQ.o (by simpa using zn (zS _) hjl);have e1:=a0 j (by simpa using hjl);simp only[yJ]at e1;have bA:=zh (zO hjl);have a6:cmp.take (j+1)=cmp.take j++[cmp[j]]:=zP hjl;obtain⟨q,b7⟩:∃x,x=cmp[j]:=⟨_,rfl⟩;rw[<-b7]at e1 bA a6;have al:q<s.ps.length:=(bU.o q bA.o).1;have ak:=bL.o.kp hP.o.kp af.o.1 af.o.2.1;have d1:=ak.hd q al;have d2:=ak.lt;obtain⟨A3,c3,bD,d⟩:=TE (bL.o.rows q al);rw[bD]at d1
         have bt:Hid (∀i (hi:i<(T q).length),∃gg,A3=some ⟨gg,0,none⟩/\wr.cell? ⟨gg,i,none⟩=some (.int .i64 ((T q)[i]:Int))/\gg<wr.heap.size):=fun i hi=>by
          obtain⟨gg,hA,h1,h2⟩:=d i hi;exact⟨gg,hA,(zU (a:=⟨gg,i,none⟩) (hP.o.kp.block gg h1 (af.o.2.1 q gg al (by rw[bD,hA];rfl)))).trans h2,zJ h1 hP.o.kp.size⟩
         have j0:(0:Int)<=(j:Int):=by omega
         have j1:(j:Int)<(cmp.length:Int):=by omega
         have j2:(0:Int)<=(q:Int):=by omega
         have j3:(q:Int)<(s.ps.length:Int):=by omega
         have bR:Hid (∀h,h∈T q<->(h,q)∈E):=fun h=>by rw[bQ.o q h al,EV]
         have cE:=bP.o q;have aE:Hid (∀h,h∈(T q).take 0->fst E h∈left->fst E h=p):=fun h hh=>by simp at hh
         replace a6:=zh a6;clear ak d bD b7 a0;go_wp2
         go_loopw [105] (fun ix wz=>∃i:Nat,i<=(T q).length/\ix=.int .i64 (i:Int)/\wz=wr/\Hid (∀h,h∈(T q).take i->fst E h∈left->fst E h=p)) (fun ix _=>(T q).length-(intOf ix).toNat)
         case atStart=>exact⟨0,zS _,rfl,rfl,aE⟩
         case round=>
          clear aE;obtain⟨i,hi,rfl,aR,bG⟩:=hrel;subst aR
          by_cases hil:i<(T q).length
          .obtain ⟨gg,rfl,a0,cG⟩:=bt.o i hil;have bu:=(bR.o _).1 (zO hil);have aP:(T q).take (i+1)=(T q).take i++[(T q)[i]]:=zP hil;obtain⟨h,bZ⟩:∃x,x=(T q)[i]:=⟨_,rfl⟩;rw[<-bZ]at a0 bu aP;have a1:h<s.ps.length:=(aa.o _ bu).1;have aO:=hP.o.kp;have f1:=(a4.o.of_block aO.size (aO.block (S+1) a4.o.lt af.o.2.2.1)).cell h a1;have f2:=(a4.o.of_block aO.size (aO.block (S+1) a4.o.lt af.o.2.2.1)).lt;rw[hF.o h a1]at f1;have ao:=hP.o.look (G9 (E:=E) a1) (by omega)
           have aK:fst E h∈left->fst E h=p\/¬FF E left p:=fun hl=>by
            by_cases e:fst E h=p
            .exact .inl e
            exact .inr (b4.o h q bA.o bu hl e)
           obtain⟨fh,aZ⟩:∃x,x=fst E h:=⟨_,rfl⟩
           have aS:Hid ((fh∈left->fh=p)->∀x,x∈(T q).take (i+1)->fst E x∈left->fst E x=p):=fun hx x hm hl=>by
            rw[aP]at hm
            rcases List.mem_append.1 hm with hm|hm
            .exact bG.o x hm hl
            rw[List.mem_singleton.1 hm,<-aZ]at hl ⊢;exact hx hl
           have cL:fh<s.ps.length:=by rw[aZ];exact G9 a1
           rw[<-aZ]at f1 ao aK;have i0':(0:Int)<=(i:Int):=by omega
           have i1':(i:Int)<((T q).length:Int):=by omega
           have i2':(0:Int)<=(h:Int):=by omega
           have i3':(h:Int)<(s.ps.length:Int):=by omega
           clear bZ aZ aP aO bt
           by_cases hfl:fh∈left
           .rw [zF hfl,Cu hfl]at ao
            by_cases hfe:fh=p
            .have m1:((fh:Int) != (p:Int))=false:=by rw[zq];omega
             have ax:=zh (aS.o fun _=>hfe);subst hfe;clear aK aS;go_wp2;exact⟨⟨i+1,by omega,by go_num,trivial,ax⟩,by simp only[intOf];omega⟩
            have m1:((fh:Int) != (p:Int))=true:=by rw[zm];omega
            have aN:Hid (∀x,x<p+1->x∈left->¬FF E left x):=fun x hx a7=>by
             by_cases e:x=p
             .subst e;exact(aK hfl).resolve_left hfe
             exact a3.o x (by omega) a7
            replace hfe:=zh hfe;clear aK aS;go_wp2;exact⟨⟨p+1,by omega,rfl,by go_num,trivial,aN⟩,by simp only[intOf];omega⟩
           rw[zE hfl,BR hfl]at ao;have ax:=zh (aS.o fun c=>absurd c hfl);clear aK aS;go_wp2;exact⟨⟨i+1,by omega,by go_num,trivial,ax⟩,by simp only[intOf];omega⟩
          obtain rfl:i=(T q).length:=by omega
          have bT:Hid (∀q,q∈cmp.take (j+1)->∀h,(h,q)∈E->fst E h∈left->fst E h=p):=fun x hx h he hl=>by
           rw[a6.o]at hx
           rcases List.mem_append.1 hx with hx|hx
           .exact aY.o x hx h he hl
           rw[List.mem_singleton.1 hx]at he;exact bG.o h (by rw[zu];exact(bR.o h).2 he) hl
          have cF:=bW.o;clear aY bG bt;go_wp2;exact⟨⟨j+1,by omega,by go_num,trivial,bT⟩,by simp only[intOf];omega⟩
        obtain rfl:j=cmp.length:=by omega
        have aG:=bX.o fun q hq=>aY.o q (by rw[zu];exact hq)
        have b6:Fy E left=some p:=UK hP.o.st.ok ad aG fun x hx hf=>by
         by_cases c:p<=x
         .exact c
         exact absurd hf (a3.o x (by omega) hx)
        obtain⟨d,a5,aw⟩:=hP.o.step b6 hpn (by omega) cm;have bd:=ag.o;rw[bd]at d a5 aw;have had:Hid (∀j u,[(Value.slice Ap2 cmp.length be)][j]? = some u->(wr.alloc (.cells #[.slice Ap2 cmp.length be] 37)).cell? (Addr.add ⟨wr.heap.size,0,none⟩ j)=some u):=BO wr _ _
        have b1:Hid (pre.length<=100):=by
         have h1:=Cy s.ps.length pre (hP.o.pre_nodup aa.o) fun x hx=>(hP.o.st.had x hx).1;unfold Hid;omega
        have cu:Hid ((left.erase p).length<gk):=by
         rw[hm,xD ad];have:=wK ad;unfold Hid;omega
        have ba:Hid ((pre++[p]).length=pre.length+1):=by unfold Hid;simp
        obtain⟨g0,bs,bY⟩:=Option.map_eq_some_iff.1 Tv;simp only[Prod.mk.injEq]at bY;obtain⟨bf,bg,bh⟩:=bY;replace d:=zh d;replace a5:=zh a5;replace aw:=zh aw;replace bs:=zh bs;replace bf:=zh bf;replace bg:=zh bg;replace bh:=zh bh;clear aY aG b6 bd hP
        go_wp2_with (at_builtin;refine wpList_append_new _ rfl _ _ 44 rfl w7.heap.size 37 g0 (.slice none 0 0) 1 24 underlying44 bs.o bf.o bg.o bh.o rfl (by decide) (.slice A pre.length c) pre.length _ rfl d.o ⟨wr.heap.size,0,none⟩ 1 1 [.slice Ap2 cmp.length be] rfl rfl had.o (AQ _ rfl) (by decide) (by have:=b1.o;unfold maxLen;omega) (by have:=b1.o;omega) a5.o ?_;intro bH bI aD aM a2;obtain⟨W4,bB,aq⟩:=aw.o bH bI aD aM;obtain⟨A9,c9,rfl⟩:=Dy aD;replace aq:=zh aq;clear aD aM a2)
        rw[Exit.noGoto_normal];go_wp2
        go_roundg (left.erase p).length
        case measure=>exact cu.o
        case rel=>exact⟨A9,c9,pre++[p],left.erase p,rfl,by rw[ba.o],by have h:=aq.o;rwa [<-ba.o]at h⟩
      rw[zE ad,BR ad]at ai
      have aN:Hid (∀x,x<p+1->x∈left->¬FF E left x):=fun x hx a7=>by
       by_cases e:x=p
       .subst e;exact absurd a7 ad
       exact a3.o x (by omega) a7
      clear ad;go_wp2;exact⟨⟨p+1,by omega,rfl,by go_num,trivial,aN⟩,by simp only[intOf];omega⟩
     exfalso;obtain⟨x,hx,hf⟩:=hP.o.st.ok.free hl0;exact a3.o x (by have:=(au.o x hx).1;omega) hx hf
end Ci
end
end Go.Proofs.YtefmpngjjmddjaaGreatDoor

/- Parts of the proof. -/
import Derived.Laws.EntriesVeiled
import Derived.Test.YtefmpngjjmddjaaGreatDoorKhC
set_option maxHeartbeats 16000000
set_option maxRecDepth 100000
open Go.Proofs.Tryz
namespace Go.Proofs.YtefmpngjjmddjaaGreatDoor
theorem tkhD{P:Program}{md:Region.Mode}{ops:Array Oper}{Q:Exit->Act->World->Prop}{S:World->Prop}{oi:Oper}{v:Value}{fuel:Nat}{listed:Array Bool}{a:Act}{w:World}(i:Nat)(hi:ops[i]?=some oi)(hS:S w)(hy:YieldsIf P ops S oi v a)(h:wpAnyH P md ops Q S fuel (listed.setIfInBounds i true) (a.put oi.dst v) w)(hs:Region.noSelect ops=true:=by kernel_rfl)(hf:Region.free md ops listed i=true:=by kernel_rfl)(hr:(Region.ready md ops listed).contains i=true:=by kernel_rfl)(hQ:∀c a w,Q (.panic c) (a.put oi.dst v) w->Q (.panic c) a w:=by exact fun _ _ _ h=>h):wpAnyH P md ops Q S (fuel+1) listed a w:=xZ hi hs hf hr hQ hy hS h
section
open Go.RowKit Go.Shelf
namespace Nt
def mx(l:List (List Rat)):Mx:=fun i j=>(l.getD i []).getD j 0
def YI(n:Nat)(l:List (List Rat))(x:List Rat):Bool :=
 match AB SQ n n (mx l) with
 |.ok M=>(List.range n).map (fun i=>M i n)==x
 |.error _=>false
theorem OQ:YI 1 [[2,1]] [1/2]=true:=by decide +kernel
def vq(x:Raw):Rat:=mkRat (sg x.1 (val x.2.1)) (val x.2.2)
theorem Tf(q:Rat):vq (rq q)=q:=by
 show mkRat (sg (decide (q.num<0)) (val (T (some q.num.natAbs)))) (val (T (some q.den)))=q
 have h:∀n,val (T (some n))=n:=fun n=>Bi n;rw[h,h,Cg];exact Rat.mkRat_self q
theorem FT{x:Raw}(h:Ee x=true):rq (vq x)=x/\OkQ (vq x):=by
 obtain⟨q,hq,h1,h2,h3⟩:=Ip h
 have e:x=rq q:=by
  obtain⟨a,b,c⟩:=x;simp only[rq];simp only at h1 h2 h3;rw[h1,h2,h3]
 rw[e,Tf];exact⟨rfl,hq⟩
theorem OR{q:Rat}(h:OkQ q):Ee (rq q)=true:=AO h
def H6(A:List (List Raw))(b:List Raw):Mx:=fun i j=>if j=b.length then vq (b.getD i zraw) else vq ((A.getD i []).getD j zraw)
def B8(la:List RowH):List (List Raw):=la.map (·.2.2)
theorem CK(la:List RowH):(B8 la).length=la.length:=by simp[B8]
theorem I2(la:List RowH)(i:Nat)(h:i<la.length):(B8 la)[i]'(by simpa [B8] using h)=la[i].2.2:=by simp[B8]
def Qo(n:Nat)(A:List (List Raw)):Bool:=A.all fun r=>rowOk n r
theorem GJ(n:Nat)(la:List RowH):Qo n (B8 la)=DI n la:=by
 unfold Qo B8 DI;rw[List.all_map];rfl
theorem JL{n:Nat}{l:List Raw}:rowOk n l=true<->l.length=n/\allV l=true:=by
 unfold rowOk;rw[zr,yC]
theorem LL{n:Nat}{A:List (List Raw)}:Qo n A=true<->∀i (h:i<A.length),A[i].length=n/\allV A[i]=true:=by
 unfold Qo;rw[wm];constructor
 .intro h i hi;exact JL.1 (h _ (zO hi))
 intro h x hx;obtain⟨i,hi,rfl⟩:=zi hx;exact JL.2 (h i hi)
theorem ER{l:List Raw}:allV l=true<->∀i (h:i<l.length),Ee l[i]=true:=by
 unfold allV;rw[wm];constructor
 .intro h i hi;exact h _ (zO hi)
 intro h x hx;obtain⟨i,hi,rfl⟩:=zi hx;exact h i hi
def B9(n:Nat)(f:Nat->Rat):List Raw:=(List.range n).map fun i=>rq (f i)
theorem Au(n:Nat)(f:Nat->Rat):(B9 n f).length=n:=by simp[B9]
theorem BN(n:Nat)(f:Nat->Rat)(i:Nat)(h:i<(B9 n f).length):(B9 n f)[i]=rq (f i):=by simp[B9]
theorem NL{n:Nat}{f g:Nat->Rat}(h:∀i,i<n->f i=g i):B9 n f=B9 n g:=by
 unfold B9;exact xi fun i hi=>by rw[h i (List.mem_range.1 hi)]
def DS(A:List (List Raw))(b:List Raw):Except Int (List Raw) :=
 if A.length=b.length/\allV b=true/\Qo b.length A=true then
  (if b.length<=8 then (match AB SQ b.length b.length (H6 A b) with|.ok M=>.ok (B9 b.length fun i=>M i b.length)|.error e=>.error e) else .error 2)
 else .error 1
theorem Gn{w:World}{base:Nat}{v:Value}{n:Nat}{r:Nat->Raw}(h:w.ownsRow base 48 3 v n (AM n r)):
 ∃A c,v=.slice A n c/\InRow w A ((List.range n).map r):=by
 rcases h.2 with⟨rfl,rfl⟩|⟨g,cap,cur,rfl,hb,hg,h4,h5,h6,h7⟩
 .exact⟨none,0,rfl,fun h0=>absurd h0 (by simp)⟩
 refine⟨some ⟨g,0,none⟩,cap,rfl,fun h0=>⟨g,0,rfl,(Array.getElem?_eq_some_iff.1 hg).1,fun j hj=>?_⟩⟩;have d:j<n:=by simpa using hj
 have hc:=h.cells (g:=g) (by simp[Value.ownBlock]);have aa:∀o,(⟨g,0,none⟩:Addr).add o=⟨g,o,none⟩:=fun o=>by unfold Addr.add;split<;>simp_all
 have h0:=CP r d 0 (by omega);have h1:=CP r d 1 (by omega);have h2:=CP r d 2 (by omega);have c0:=hc (j*3+0) _ h0;have c1:=hc (j*3+1) _ h1;have c2:=hc (j*3+2) _ h2;rw[aa]at c0 c1 c2;simp only[yJ,vA,yS];exact⟨c0,c1,c2⟩
theorem E0{α:Type}{l:List α}{d:α}{i:Nat}(h:i<l.length):l.getD i d=l[i]:=by
 rw[yH,ze h,Option.getD_some]
theorem JM(Aa Ab:Option Addr)(ca cb:Nat)(la:List RowH)(lb:List Raw)(w:World)(hE:Env w)(hs:SysIn w Aa Ab la lb)(h1:la.length=lb.length)(h2:allV lb=true)(h3:DI lb.length la=true)(h8:lb.length<=8):
 Calls prog 39 #[.slice Aa lb.length ca,.slice Ab lb.length cb] w (JJ lb.length (H6 (B8 la) lb) w):=by
 have hb:=ER.1 h2
 have d:∀i (hi:i<la.length),la[i].2.2.length=lb.length/\allV la[i].2.2=true:=fun i hi=>by
  have h:i<(B8 la).length:=by rw[CK];exact hi
  have:=LL.1 ((GJ lb.length la).trans h3) i h
  rwa [I2 la i hi]at this
 have hg:∀i (hi:i<la.length),(B8 la).getD i []=la[i].2.2:=fun i hi=>by
  rw[E0 (by rw[CK];exact hi),I2 la i hi]
 refine Qn Aa Ab lb.length ca cb la lb (H6 (B8 la) lb) w hE h1 rfl hs h2 h3 h8 (fun i hi=>⟨(d i hi).1,fun j hj=>?_⟩) (fun i hi=>?_) (fun i j hi hj=>?_)
 .have aa:j≠lb.length:=by have:=(d i hi).1;omega
  unfold H6;rw[zE aa,hg i hi,E0 hj];exact(FT (ER.1 (d i hi).2 j hj)).1.symm
 .unfold H6;rw[zF rfl,E0 hi];exact(FT (hb i hi)).1.symm
 unfold H6
 by_cases e:j=lb.length
 .rw[zF e,E0 hi];exact(FT (hb i hi)).2
 have h:i<la.length:=by omega
 have aa:j<la[i].2.2.length:=by have:=(d i h).1;omega
 rw[zE e,hg i h,E0 aa];exact(FT (ER.1 (d i h).2 j aa)).2
theorem Tg(Aa Ab:Option Addr)(ca cb:Nat)(la:List RowH)(lb xs:List Raw)(w:World)(hE:Env w)(hs:SysIn w Aa Ab la lb)(h:DS (B8 la) lb=.ok xs):
 Calls prog 39 #[.slice Aa la.length ca,.slice Ab lb.length cb] w fun e w'=>(∃p c,e=.returned (.tuple #[.slice p xs.length c,.int .i64 0])/\InRow w' p xs)/\Below w.heap.size w w':=by
 unfold DS at h;rw[CK,GJ]at h
 split at h
 .rename_i hc;obtain⟨h1,h2,h3⟩:=hc
  split at h
  .rename_i h8;have key:=JM Aa Ab ca cb la lb w hE hs h1 h2 h3 h8;rw[h1];refine key.mono fun e w' ⟨hB,hr⟩=>⟨?_,hB⟩
   rcases hr with⟨M,v,hM,he,d⟩|⟨er,hM,he⟩
   .rw[hM]at h;simp only[Except.ok.injEq]at h;obtain⟨p,c,rfl,aa⟩:=Gn d;refine⟨p,c,?_,by rw[<-h];exact aa⟩;rw[he,<-h,Au]
   rw[hM]at h
   cases h
  cases h
 cases h
theorem Th(Aa Ab:Option Addr)(ca cb:Nat)(la:List RowH)(lb:List Raw)(er:Int)(w:World)(hE:Env w)(hs:SysIn w Aa Ab la lb)(h:DS (B8 la) lb=.error er):
 Calls prog 39 #[.slice Aa la.length ca,.slice Ab lb.length cb] w fun e w'=>e=.returned (.tuple #[.slice none 0 0,.int .i64 er])/\Below w.heap.size w w':=by
 unfold DS at h;rw[CK,GJ]at h
 split at h
 .rename_i hc;obtain⟨h1,h2,h3⟩:=hc
  split at h
  .rename_i h8;have key:=JM Aa Ab ca cb la lb w hE hs h1 h2 h3 h8;rw[h1];refine key.mono fun e w' ⟨hB,hr⟩=>⟨?_,hB⟩
   rcases hr with⟨M,v,hM,he,d⟩|⟨aa,hM,he⟩
   .rw[hM]at h
    cases h
   rw[hM]at h;simp only[Except.error.injEq]at h;rw[he,h]
  rename_i h8;simp only[Except.error.injEq]at h;rw[<-h];exact Qi Aa Ab ca cb la lb w hE h1 hs h2 h3 (by omega)
 rename_i hc;simp only[Except.error.injEq]at h;rw[<-h]
 by_cases h1:la.length=lb.length
 .cases h2:allV lb
  .exact SY Aa Ab ca cb la lb w hE h1 hs h2
  cases h3:DI lb.length la
  .exact SZ Aa Ab ca cb la lb w hE h1 hs h2 h3
  exact absurd ⟨h1,h2,h3⟩ hc
 exact Qh Aa Ab ca cb la lb w h1 hs
def InM(n:Nat)(M N:Mx):Prop:=∀i,i<n->∀j,j<=n->M i j=N i j
section
variable {n:Nat} {M N:Mx}
theorem InM.sol(h:InM n M N)(y r:Nat->Rat):Sol n M y r<->Sol n N y r:=by
 have e:∀i,i<n->At n (fun j=>M i j*y j)=At n (fun j=>N i j*y j):=fun i hi=>Az fun j hj=>by rw[h i hi j (by omega)]
 exact⟨fun k i hi=>(e i hi).symm.trans (k i hi),fun k i hi=>(e i hi).trans (k i hi)⟩
theorem InM.rhs(h:InM n M N){y:Nat->Rat}:Sol n M y (fun i=>M i n)<->Sol n N y (fun i=>N i n) :=
 ⟨fun k=>((h.sol y _).1 k).congr fun i hi=>h i hi n (zB n),fun k=>((h.sol y _).2 k).congr fun i hi=>(h i hi n (zB n)).symm⟩
end
def ent(A:List (List Raw))(i j:Nat):Rat:=vq ((A.getD i []).getD j zraw)
def rhs(b:List Raw)(i:Nat):Rat:=vq (b.getD i zraw)
def Xc:Except Int (List Raw)->List Raw
 |.ok l=>l
 |.error _=>[]
def YJ:Except Int (List Raw)->Int
 |.ok _=>0
 |.error e=>e
end Nt
end
section
open Go.RowKit Go.Shelf
namespace Nt
theorem InRow.at{W:World}{A:Option Addr}{l:List Raw}(h:InRow W A l){j:Nat}(hj:j<l.length):∃b o,A=some ⟨b,o,none⟩/\b<W.heap.size/\W.cell? ⟨b,o+j*3,none⟩=some (.bool l[j].1)/\W.cell? ⟨b,o+j*3+1,none⟩=some (.string l[j].2.1)/\W.cell? ⟨b,o+j*3+2,none⟩=some (.string l[j].2.2):=by
 obtain⟨b,o,e,hl,hc⟩:=h (by omega);exact⟨b,o,e,hl,hc j hj⟩
theorem LN{q:Rat}(h:OkQ q):EC (rq q):=by
 have:=AS (AO h);unfold EC rq;exact⟨by have:=this.1;dsimp only;omega,by have:=this.2;dsimp only;omega⟩
theorem Ef{w w':World}{B:Nat}{t:TypeId}{size:Nat}{v:Value}{n:Nat}{xs:List Value}(h:w.ownsRow B t size v n xs)(hb:Below w.heap.size w w'):w'.ownsRow B t size v n xs :=
 h.kept (row:=none) ⟨hb.os,hb.tape,hb.output,hb.size,fun k hk _=>hb.block k hk⟩ (by cases hv:v.ownBlock<;>simp)
theorem NM{n k i:Nat}{M M':Mx}(hO:∀a b,a<n->b<=n->OkQ (M a b))(h:BJ SQ n k i M=some M'):∀a b,a<n->b<=n->OkQ (M' a b):=by
 unfold BJ at h
 split at h
 .simp only[Option.some.injEq]at h;rw[<-h];exact hO
 split at h
 .rename_i hs;simp only[Option.some.injEq]at h;rw[<-h];have hk:=(Fo SQ).1 hs;intro a b ha hb;unfold Dw
  split
  .rename_i hc;obtain⟨h1,h2,h3,h4⟩:=hk b hc.2 hb;exact ON (zL h3) (zL h4)
  exact hO a b ha hb
 cases h
theorem Qp{n k:Nat}{M:Mx}(hO:∀a b,a<n->b<=n->OkQ (M a b)):∀{i:Nat} {M':Mx},i<=n->AK SQ n k i M=some M'->∀a b,a<n->b<=n->OkQ (M' a b):=by
 intro i
 induction i with
 |zero=>intro M' _ h;simp only[AK,Option.some.injEq]at h;rw[<-h];exact hO
 |succ i ih=>
  intro M' hi h;simp only[AK,Option.bind_eq_some_iff]at h;obtain⟨M1,h1,h2⟩:=h;exact NM (ih (by omega) h1) h2
theorem LO{n k:Nat}{M M':Mx}(hk:k<n)(hO:∀a b,a<n->b<=n->OkQ (M a b))(h:CY SQ n k M=.ok M'):∀a b,a<n->b<=n->OkQ (M' a b):=by
 unfold CY at h
 split at h
 .cases h
 rename_i p hp;obtain⟨p1,p2,p3,_⟩:=FQ (by omega) hp
 have ae:∀a b,a<n->b<=n->OkQ (Bt k p M a b):=fun a b ha hb=>by
  unfold Bt
  split
  .exact hO p b p2 hb
  split
  .exact hO k b hk hb
  exact hO a b ha hb
 split at h
 .rename_i hd;have d:=(Fnq SQ).1 hd;have ad:Bt k p M k k≠0:=by unfold Bt;rw[zF rfl];exact p3
  have aa:∀a b,a<n->b<=n->OkQ (Bj k (Bt k p M) a b):=fun a b ha hb=>by
   unfold Bj
   split
   .rename_i hc;obtain⟨h1,h2⟩:=d b hc.2 hb;exact OO (zL h1) (zL h2) ad
   exact ae a b ha hb
  split at h
  .rename_i M2 h2;simp only[Except.ok.injEq]at h;rw[<-h];exact Qp aa (zB n) h2
  cases h
 cases h
def Apart(u v:Value):Prop:=∀b,u.ownBlock=some b->v.ownBlock≠some b
theorem Apart.symm{u v:Value}(h:Apart u v):Apart v u:=fun b h1 h2=>h b h2 h1
section
variable {w w':World} {base:Nat} {e:TypeId} {size:Nat} {u v v':Value} {n:Nat} {xs:List Value}
theorem BI{P:Program}(t ty e:TypeId)(i:TypeInfo)(z:Value)(size bytes:Nat)(ht:P.underlying t=some (.slice e))(hi:P.info? e=some i)(hz:i.zero=some z)
 (af:i.size=size)(aj:i.bytes=bytes)(v:Value)(n:Nat)(xs:List Value)(aa:w.ownsRow base e size v n xs)
 (a:Addr)(m c:Nat)(news:List Value)(hl:news.length=m*size)(d:∀j u,news[j]? = some u->w.cell? (a.add j)=some u)(h1:∀u∈news,u.oneCell'=true)(hm:0<m)
 (ai:n+m<=maxLen)(h:(n+m)*bytes<=140737488355328){v':Value}{w':World}(hr:(Builtin.append_ #[t,t] ty #[v,.slice (some a) m c]).run P w=.ok v' w'):
 v'.ownBlock=v.ownBlock\/v'.ownBlock=some w.heap.size:=by
 subst af;subst aj;have ah:n+m<=9223372036854775807:=by simp only[maxLen]at ai;omega
 rcases aa.2 with⟨rfl,rfl⟩|⟨g,cap,cur,rfl,_,hg,_,al,ak,_⟩
 .have ad:=run_append_nil (P:=P) w t ty e i z ht hi hz a m c news hl d (by omega) (by omega) (by have hb:=h;simp only[yS]at hb;omega);rw[ad]at hr;simp only[Result.ok.injEq]at hr;rw[<-hr.1];exact .inr rfl
 by_cases hroom:n+m<=cap
 .have ag:n*i.size+news.length<=cur.size:=by rw[hl,ak,<-yo];exact xB _ hroom
  have ad:=run_append_room (P:=P) w t ty e i ht hi g n cap cur hg a m c news hl d h1 hroom ag;rw[ad]at hr;simp only[Result.ok.injEq]at hr;rw[<-hr.1];exact .inl rfl
 have ae:∀j u,xs[j]? = some u->w.cell? ((⟨g,0,none⟩:Addr).add j)=some u:=aa.cells (g:=g) rfl;have ad:=run_append_grow (P:=P) w t ty e i z ht hi hz ⟨g,0,none⟩ n cap xs aa.1 ae a m c news hl d (by omega) (by omega) (growslice_fits (by omega) h);rw[ad]at hr;simp only[Result.ok.injEq]at hr;rw[<-hr.1];exact .inr rfl
end
theorem wpList_append_new{P:Program}(w:World){ops:Array Oper}{rest:List Oper}{o:Oper}{a:Act}{Q:Exit->Act->World->Prop}(aj:o.guard=none)(s x:Operand)(t:TypeId)
 (ho:o.op=.call { callee:=.builtin .append,args:=#[s,x],argTypes:=#[t,t] })
 (base:Nat)(e:TypeId)(i:TypeInfo)(z:Value)(size bytes:Nat)(ht:P.underlying t=some (.slice e))(hi:P.info? e=some i)(hz:i.zero=some z)
 (ae:i.size=size)(ai:i.bytes=bytes)(al:z.cells.size=size)(ak:0<size)
 (v:Value)(n:Nat)(xs:List Value)(hs:a.eval s=v)(af:w.ownsRow base e size v n xs)
 (ad:Addr)(m c:Nat)(news:List Value)(hx:a.eval x=.slice (some ad) m c)(hl:news.length=m*size)(aa:∀j u,news[j]? = some u->w.cell? (ad.add j)=some u)(h1:∀u∈news,u.oneCell'=true)(hm:0<m)
 (ah:n+m<=maxLen)(d:(n+m)*bytes<=140737488355328)(ag:base<=w.heap.size)
 (h:∀v' w',w'.ownsRow base e size v' (n+m) (xs++news)->w.grownBy w' v.ownBlock->(v'.ownBlock=v.ownBlock\/v'.ownBlock=some w.heap.size)->wpList P ops Q rest (a.put o.dst v') w'):wpList P ops Q (o::rest) a w :=
 wpList_plain aj fun _ hK=>by
  obtain⟨v',w',hr,h2,h3,_⟩:=vK (P:=P) w base t o.type e i z size bytes ht hi hz ae ai al ak v n xs af ad m c news hl aa h1 ah d ag;have h5:=BI (P:=P) t o.type e i z size bytes ht hi hz ae ai v n xs af ad m c news hl aa h1 hm ah d hr;unfold Oper.wp execOp;simp only[ho,resolve,invoke,builtin,vn,vS,wX,ws,xS,vi,hs,hx,hr];exact hK _ _ (h v' w' h2 h3 h5)
theorem AQ(v:Value)(h:v.oneCell'=true):∀u∈[v],u.oneCell'=true:=fun u hu=>by rw[List.mem_singleton.1 hu];exact h
theorem BO(w:World)(v:Value)(t:TypeId):∀j u,[v][j]? = some u->(w.alloc (.cells #[v] t)).cell? (Addr.add ⟨w.heap.size,0,none⟩ j)=some u:=by
 intro j u hj
 match j,hj with
 |0,hj=>simp at hj;subst hj;simp[Addr.add]
 |j+1,hj=>simp at hj
end Nt
end
section
open Go.RowKit Go.Shelf
namespace Nt
def hdr(x:RowH):Value:=.slice x.1 x.2.2.length x.2.1
def Ti:RowH:=(none,0,[])
structure Qd(W:World)(B n:Nat)(la:List RowH)(lb:List Raw)(y7 y9 y8 z:Nat)(v7 v8 v9 v11:Value)(R:Nat->Value):Prop where
 o7:W.ownsRow B 39 1 v7 y7 ((List.range y7).map fun i=>hdr (la.getD (n-1-i) Ti))
 o9:W.ownsRow B 48 3 v9 y9 (AM y9 fun i=>lb.getD (n-1-i) zraw)
 o8:W.ownsRow B 39 1 v8 y8 ((List.range y8).map R)
 oR:∀i,i<y8->W.ownsRow B 48 3 (R i) n (AM n fun j=>(la.getD i Ti).2.2.getD (n-1-j) zraw)
 o11:W.ownsRow B 48 3 v11 z (AM z fun j=>(la.getD y8 Ti).2.2.getD (n-1-j) zraw)
 a78:Apart v7 v8
 a79:Apart v7 v9
 a89:Apart v8 v9
 a17:Apart v11 v7
 a18:Apart v11 v8
 a19:Apart v11 v9
 r7:∀i,i<y8->Apart (R i) v7
 r8:∀i,i<y8->Apart (R i) v8
 r9:∀i,i<y8->Apart (R i) v9
 r1:∀i,i<y8->Apart (R i) v11
section
variable {W W':World} {B n:Nat} {la:List RowH} {lb:List Raw} {y7 y9 y8 z:Nat} {v7 v8 v9 v11 v':Value} {R:Nat->Value}
theorem Qd.below(h:Qd W B n la lb y7 y9 y8 z v7 v8 v9 v11 R)(hb:Below W.heap.size W W'):Qd W' B n la lb y7 y9 y8 z v7 v8 v9 v11 R :=
 ⟨Ef h.o7 hb,Ef h.o9 hb,Ef h.o8 hb,fun i hi=>Ef (h.oR i hi) hb,Ef h.o11 hb,h.a78,h.a79,h.a89,h.a17,h.a18,h.a19,h.r7,h.r8,h.r9,h.r1⟩
theorem Qd.alloc(h:Qd W B n la lb y7 y9 y8 z v7 v8 v9 v11 R)(o:Obj):Qd (W.alloc o) B n la lb y7 y9 y8 z v7 v8 v9 v11 R:=h.below ((zI _ W).alloc (zB _) o)
end
theorem inMat_of_own{w:World}{base:Nat}{v:Value}{L:List RowH}(h:w.ownsRow base 39 1 v L.length (L.map hdr))(hr:∀x∈L,InRow w x.1 x.2.2):
 ∃A c,v=.slice A L.length c/\InMat w A L:=by
 rcases h.2 with⟨rfl,h0⟩|⟨g,cap,cur,rfl,hb,hg,h4,h5,h6,h7⟩
 .exact⟨none,0,by rw[h0],fun h=>absurd h (by omega)⟩
 refine⟨some ⟨g,0,none⟩,cap,rfl,fun h0=>⟨g,0,rfl,(Array.getElem?_eq_some_iff.1 hg).1,fun j hj=>?_⟩⟩;have hc:=h.cells (g:=g) (by simp[Value.ownBlock]) j (hdr L[j]) (by simp[hj]);have d:∀o,(⟨g,0,none⟩:Addr).add o=⟨g,o,none⟩:=fun o=>by unfold Addr.add;split<;>simp_all
 rw[d]at hc;rw[yS];exact⟨hc,hr _ (zO hj)⟩
theorem V5(Aa Ab:Option Addr)(ca cb:Nat)(la:List RowH)(lb:List Raw)(w:World)(hE:Env w)(hs:SysIn w Aa Ab la lb):
 Calls prog 39 #[.slice Aa la.length ca,.slice Ab lb.length cb] w fun e w'=>(∃p c,e=.returned (.tuple #[.slice p (Xc (DS (B8 la) lb)).length c,.int .i64 (YJ (DS (B8 la) lb))])/\InRow w' p (Xc (DS (B8 la) lb)))/\Below w.heap.size w w':=by
 cases h:DS (B8 la) lb with
 |ok xs=>exact Tg Aa Ab ca cb la lb xs w hE hs h
 |error er=>exact(Th Aa Ab ca cb la lb er w hE hs h).mono fun e w' h=>⟨⟨none,0,h.1,fun h=>absurd h (by simp[Xc])⟩,h.2⟩
end Nt
end
section
open Go.RowKit Go.Shelf
namespace Nt
theorem Dy{W:World}{base:Nat}{e:TypeId}{size:Nat}{v:Value}{n:Nat}{xs:List Value}(h:W.ownsRow base e size v n xs)(hn:0<n):
 ∃g cap,v=.slice (some ⟨g,0,none⟩) n cap/\base<=g/\g<W.heap.size/\(∀j,W.frozen? ⟨g,j,none⟩=false)/\∀j u,xs[j]? = some u->W.cell? ⟨g,j,none⟩=some u:=by
 rcases h.2 with⟨rfl,h0⟩|⟨g,cap,cur,rfl,hb,hg,_⟩
 .omega
 refine⟨g,cap,rfl,hb,(Array.getElem?_eq_some_iff.1 hg).1,fun j=>by simp[World.frozen?,hg],fun j u hj=>?_⟩;have hc:=h.cells (g:=g) (by simp[Value.ownBlock]) j u hj;have d:∀o,(⟨g,0,none⟩:Addr).add o=⟨g,o,none⟩:=fun o=>by unfold Addr.add;split<;>simp_all
 rwa [d]at hc
theorem AH{P:Program}(w:World){o:Oper}{a:Act}{K:Act->World->Prop}{Q:Exit->Act->World->Prop}(s x:Operand)(t:TypeId)
 (ho:o.op=.call { callee:=.builtin .append,args:=#[s,x],argTypes:=#[t,t] })
 (base:Nat)(e:TypeId)(i:TypeInfo)(z:Value)(size bytes:Nat)(ht:P.underlying t=some (.slice e))(hi:P.info? e=some i)(hz:i.zero=some z)
 (ae:i.size=size)(ai:i.bytes=bytes)(ak:z.cells.size=size)(aj:0<size)
 (v:Value)(n:Nat)(xs:List Value)(hs:a.eval s=v)(af:w.ownsRow base e size v n xs)
 (ad:Addr)(m c:Nat)(news:List Value)(hx:a.eval x=.slice (some ad) m c)(hl:news.length=m*size)(aa:∀j u,news[j]? = some u->w.cell? (ad.add j)=some u)(h1:∀u∈news,u.oneCell'=true)(hm:0<m)
 (ah:n+m<=maxLen)(d:(n+m)*bytes<=140737488355328)(ag:base<=w.heap.size)
 (h:∀v' w',w'.ownsRow base e size v' (n+m) (xs++news)->w.grownBy w' v.ownBlock->(v'.ownBlock=v.ownBlock\/v'.ownBlock=some w.heap.size)->K (a.put o.dst v') w'):o.wp P a w K Q:=by
 obtain⟨v',w',hr,h2,h3,_⟩:=vK (P:=P) w base t o.type e i z size bytes ht hi hz ae ai ak aj v n xs af ad m c news hl aa h1 ah d ag;have h5:=BI (P:=P) t o.type e i z size bytes ht hi hz ae ai v n xs af ad m c news hl aa h1 hm ah d hr;unfold Oper.wp execOp;simp only[ho,resolve,invoke,builtin,vn,vS,wX,ws,xS,vi,hs,hx,hr];exact h v' w' h2 h3 h5
end Nt
end
section
open Go.ChangeShapes Go.WideShapes Go.ChangeAt Go.RowKit Go.Shelf Go.Joins Go.Deep
namespace Nt
def qD{H:Type}(x:Raw):DataW H:=.agg [.lit (.bool x.1),.lit (.string x.2.1.data.toList),.lit (.string x.2.2.data.toList)]
def NN{H:Type}(l:List Raw)(d:DataW H):Prop:=(d=.nil/\l=[])\/∃rest,d=.slice (l.map qD) rest
section
variable {H:Type} {enc:TypeId×Value->H} {w:World} {base:Nat} {held:Bool}
theorem Tj{b o k:Nat}:(⟨b,o,none⟩:Addr).add k=⟨b,o+k,none⟩:=by unfold Addr.add;split<;>simp_all
theorem V6{fuel:Nat}{cs:List Value}{x:DataW H×List MemPlace}(h:DataW.trod enc prog w base (fun _=>true) held fuel 39 cs=some x):
 ∃(A:Option Addr)(cap:Nat)(l:List Raw),cs=[.slice A l.length cap]/\NN l x.1/\InRow w A l:=by
 rcases open_slice underlying39 h with⟨h1,h2⟩|⟨a,len,cap,m,n,D,Pl,ae,hb,hl,hm,aa,hx,hi⟩
 .exact⟨none,0,[],h1,.inl ⟨by rw[h2],rfl⟩,fun h=>absurd h (by simp)⟩
 simp only[vG]at aa;subst aa
 have each:∀i,i<m->∃y:Raw,D i=qD y/\w.cell? (a.add (i*3))=some (.bool y.1)/\w.cell? (a.add (i*3+1))=some (.string y.2.1)/\w.cell? (a.add (i*3+2))=some (.string y.2.2):=by
  intro i ag;obtain⟨cs',hc,ai⟩:=hi i ag;rw[Vk]at hc;obtain⟨y0,y1,y2,n',hy,_,t0,t1,t2⟩:=trod_struct3 underlying48 ai;obtain⟨_,ad,d⟩:=World.cells?_some hc
  match cs',ad with
  | [c0,c1,c2],_=>
    have g0:=d 0 (by omega);have g1:=d 1 (by omega);have g2:=d 2 (by omega);rw[Go.Deep.add_add]at g0 g1 g2;obtain⟨g,e0,k0⟩:=DataW.trod_bool underlying4 t0;obtain⟨s1,e1,k1,_⟩:=vH underlying9 t1;obtain⟨s2,e2,k2,_⟩:=vH underlying9 t2;simp only[Prod.mk.injEq]at hy;have b0:c0=.bool g:=by simpa [show prog.cellsOf 4=1 by kernel_rfl,show prog.cellsOf 9=1 by kernel_rfl] using e0
    have b1:c1=.string s1:=by simpa [show prog.cellsOf 4=1 by kernel_rfl,show prog.cellsOf 9=1 by kernel_rfl] using e1
    have b2:c2=.string s2:=by simpa [show prog.cellsOf 4=1 by kernel_rfl,show prog.cellsOf 9=1 by kernel_rfl] using e2
    subst b0 b1 b2;refine⟨(g,s1,s2),?_,?_,?_,?_⟩
    .rw[hy.1,k0,k1,k2];rfl
    .simpa using g0
    .simpa using g1
    simpa using g2
 obtain⟨Y,hY⟩:=choose_lt each;refine⟨some a,m,(List.range len).map Y,by simpa using ae,.inr ⟨_,by rw[hx,xz];simp only[];congr 1;exact xi fun i af=>(hY i (by have:=List.mem_range.1 af;omega)).1⟩,fun h0=>?_⟩;simp only[zW,yh]at h0;have ah:=World.cell?_spot (hY 0 (by omega)).2.1;obtain⟨b,o,s⟩:=a;have hs:s=none:=by simpa [Addr.add] using ah
 subst hs;refine⟨b,o,rfl,?_,fun j hj=>?_⟩
 .have:=xq w _ (hY 0 (by omega)).2.1
  simpa [Tj] using this
 have aj:j<len:=by simpa using hj
 obtain⟨_,k0,k1,k2⟩:=hY j (by omega);rw[Tj]at k0 k1 k2;simp only[yJ,vA];exact⟨k0,k1,k2⟩
end
section
variable {H:Type}
theorem Dv{P:Program}{e:TypeId}{d:DataW H}:∀{l:List (DataW H)},d∈l->∀m∈d.weights P e,m∈DataW.weightsAll P e l:=by
 intro l
 induction l with
 |nil=>intro h;cases h
 |cons a l ih=>
  intro h m hm;rw[DataW.weightsAll,yc]
  rcases List.mem_cons.1 h with rfl|h
  .exact .inl hm
  exact .inr (ih h m hm)
theorem Tk{l:List Raw}{d:DataW H}(h:NN l d)(hw:∀m∈d.weights prog 39,m<=140737488351232):l.length<=140737488355328/\∀x∈l,EC x:=by
 rcases h with⟨_,rfl⟩|⟨rest,rfl⟩
 .exact⟨by simp,fun x h=>absurd h (by simp)⟩
 have e:(DataW.slice (l.map qD) rest).weights prog 39=((l.map (qD (H:=H))).length+rest.length)*prog.bytesOf 48::(DataW.weightsAll prog 48 (l.map (qD (H:=H)))++DataW.weightsAll prog 48 rest):=by
  simp[DataW.weights,underlying39]
 rw[e]at hw;have h1:=hw _ (zf ..);rw[show prog.bytesOf 48=40 by kernel_rfl,zW]at h1;refine⟨by omega,fun x hx=>?_⟩;have hm:=Dv (P:=prog) (e:=48) (wj (f:=qD (H:=H)) hx)
 have z:∀s:ByteArray,s.data.toList.length∈(qD (H:=H) x).weights prog 48->s.size<=140737488355328:=fun s hs=>by
  have:=hw _ (zY _ (yV _ (hm _ hs)));have z1:s.size=s.data.toList.length:=wv _;omega
 exact⟨z _ (by simp[qD,DataW.weights,DataW.weightsEach,underlying48]),z _ (by simp[qD,DataW.weights,DataW.weightsEach,underlying48])⟩
theorem CJ{enc:TypeId×Value->H}{P:Program}{W W':World}{base:Nat}{sp':Nat->Bool}(hl:laidOutB P=true):∀{ts:List TypeId} {vs:List Value} {ds:List (DataW H)} {ps:List MemPlace},
 (∀t∈ts,P.readableRec t=true/\t<P.types.size)->DataW.TrodAll enc P W base (fun _=>true) true ts vs ds ps->(∀p∈ps,W.sameAt W' p)->(∀p∈ps,sp' p.block=true)->DataW.TrodAll enc P W' base sp' true ts vs ds ps
 | [],[],[],_,_,h,_,_=>h
 |_ :: _,_::_,_::_,_,hT,⟨p,q,h1,h2,e⟩,hs,hb=>
  ⟨p,q,WideElems.Trod_stays hl (hT _ (List.mem_cons.2 (.inl rfl))).1 (hT _ (List.mem_cons.2 (.inl rfl))).2 h1 (fun x hx=>hs x (by rw[e];exact yV _ hx)) (fun x hx=>hb x (by rw[e];exact yV _ hx)),
    CJ hl (fun t ht=>hT t (List.mem_cons.2 (.inr ht))) h2 (fun x hx=>hs x (by rw[e];exact yz _ hx)) (fun x hx=>hb x (by rw[e];exact yz _ hx)),e⟩
end
section
variable {H:Type} {enc:TypeId×Value->H} {w:World} {base:Nat} {held:Bool}
theorem Gk{ts:List TypeId}{ds:List (DataW H)}{j:Nat}{t:TypeId}{d:DataW H}(h:(DataW.weightsEach prog ts ds).all (·<=reachBytes)=true)(ht:ts[j]? = some t)(hd:ds[j]? = some d):∀m∈d.weights prog t,m<=140737488351232:=fun m hm=>
 zL (List.all_eq_true.1 h _ (DataW.weights_mem_each (P:=prog) ht hd m hm))
end
end Nt
end
section
open Go.RowKit Go.Shelf
namespace Bd
open Nt Ci
def Cc(m d:Nat):Nat:=m*(d/Nat.gcd m d)
def H7:Nat->List Raw->Bool
 |_,[]=>true
 |m,x::t=>Ee x&&(!x.1&&(decide (x.2.1.size<=65)&&(decide (x.2.2.size<=65)&&(decide ((T (some (Cc m (vq x).den))).size<=65)&&H7 (Cc m (vq x).den) t))))
theorem JN(m:Nat)(x:Raw)(t:List Raw):H7 m (x::t)=(Ee x&&(!x.1&&(decide (x.2.1.size<=65)&&(decide (x.2.2.size<=65)&&(decide ((T (some (Cc m (vq x).den))).size<=65)&&H7 (Cc m (vq x).den) t))))):=rfl
def Hk(l:List Raw):Bool:=H7 1 l
theorem DJ{n k:Nat}(hk:0<k):(T (some n)).size<=k<->n<10^k:=by
 have e:(T (some n)).size=(Lib.decDigits n).length:=by rw[wv];rfl
 rw[e];exact Cn n k hk
theorem Tl:10^65*10^65<=Lim:=by
 rw[<-xu];exact zj (by decide) (by rw[Et];decide)
theorem JO{m d:Nat}(hm:0<m)(hd:0<d):0<Cc m d :=
 wM hm (Nat.div_pos (vV hd (Nat.gcd_dvd_right m d)) (Nat.gcd_pos_of_pos_right m hd))
theorem LP(A:Option Addr)(ca:Nat)(l:List Raw)(w:World)(hE:Env w)(hl:InRow w A l)(aM:l.length<=140737488355328)(ay:∀k (h:k<l.length),l[k].2.1.size<=140737488355328/\l[k].2.2.size<=140737488355328):
 Calls prog 48 #[.slice A l.length ca] w fun e w'=>e=.returned (.bool (Hk l))/\Below w.heap.size w w':=by
 have az:Hid (Below w.heap.size w w):=zI _ _;have aq:Hid (Hk l=H7 1 (l.drop 0)):=rfl;have aF:Hid (0<1/\1<10^65):=⟨by decide,Nat.one_lt_pow (by decide) (by decide)⟩;replace hE:=zh hE;replace hl:=zh hl;replace ay:=zh ay;generalize Hk l=fin at aq ⊢;have aB:Value.string ⟨#[49]⟩=.string (T (some 1)):=by kernel_rfl
 go_enter func48,ntmps48;go_wp2
 go_loopw [3,13] (fun mv ix wr=>∃(k m:Nat),k<=l.length/\ix=.int .i64 (k:Int)/\mv=.string (T (some m))/\Hid (fin=H7 m (l.drop k))/\Hid (0<m/\m<10^65)/\Hid (Below w.heap.size w wr)) (fun _ ix _=>l.length-(intOf ix).toNat)
 case atStart=>exact⟨0,1,zS _,rfl,aB,aq,aF,az⟩
 case round=>
  clear aq aF az aB;obtain⟨k,m,hk,rfl,rfl,hI,hm,hB⟩:=hrel;obtain⟨wz,rfl⟩:∃z,z=wr:=⟨_,rfl⟩;have j0:(0:Int)<=(k:Int):=by omega
  by_cases hlt:k<l.length
  .have j1:(k:Int)<(l.length:Int):=by omega
   obtain⟨b,o,rfl,aJ,hc⟩:=(hl.o.below hB.o (zB _)) (by omega);obtain⟨e0,e1,e2⟩:=hc k hlt;have hs:=ay.o k hlt;have hdr:l.drop k=l[k]::l.drop (k+1):=wR hlt;rw[hdr]at hI;have aL:∀x:Raw,Ee x=A4 x.1 x.2.1 x.2.2:=fun _=>rfl;obtain⟨x,hx⟩:∃x,x=l[k]:=⟨_,rfl⟩;rw[<-hx]at e0 e1 e2 hs hI;obtain⟨gg,nn,dd⟩:=x;dsimp only at e0 e1 e2 hs;obtain⟨vb,ao⟩:∃r,r=A4 gg nn dd:=⟨_,rfl⟩;have af:Hid (Ee (gg,nn,dd)=vb):=ao.symm;have kv:Hid (∀W,Env W->Calls prog 97 #[.agg #[.bool gg,.string nn,.string dd]] W fun e w'=>e=.returned (.bool vb)/\Below W.heap.size W w'):=fun W hW=>by rw[ao];exact AL gg nn dd W hW hs.1 hs.2
   have ai:Hid (Below w.heap.size w (wz.alloc (.cells #[.bool gg,.string nn,.string dd] 48))):=hB.o.alloc hB.o.size _;have aC:Hid (Bk (wz.alloc (.cells #[.bool gg,.string nn,.string dd] 48)) wz.heap.size 48 [.bool gg,.string nn,.string dd]):=Bk.new _ _ _;have aH:=zh (kv.o _ (hE.o.below ai.o));replace ao:=zh ao;replace hx:=zh hx;replace hs:=zh hs;clear hc hdr aL kv
   go_wp2_with fail
   refine aH.o.q fun w2 hb=>?_;have d:=ai.t hb;have aa:=zh (aC.o.below hb);clear hb ai aC aH e0 e1 e2 aJ hB;have u0:=aa.o.c0;have u1:=aa.o.c1;have u2:=aa.o.c2;have u9:=aa.o.lt
   cases vb with
   |false=>
    have hf:fin=false:=by rw[hI.o];unfold H7;rw[af.o];rfl
    subst hf;go_wp2;go_ret;exact⟨rfl,d.o⟩
   |true=>
    cases gg with
    |true=>
     have hf:fin=false:=by rw[hI.o];unfold H7;rw[af.o];rfl
     subst hf;go_wp2;go_ret;exact⟨rfl,d.o⟩
    |false=>
     have hq:=FT (x:=(false,nn,dd)) (by exact af.o);obtain⟨q,an⟩:∃q,q=vq (false,nn,dd):=⟨_,rfl⟩;rw[<-an]at hq;have ae:dd=T (some q.den):=(congrArg (·.2.2) hq.1).symm;have ad:q.den<Lim:=hq.2.2
     have ar:Hid (fin=(decide (nn.size<=65)&&(decide (dd.size<=65)&&(decide ((T (some (Cc m q.den))).size<=65)&&H7 (Cc m q.den) (l.drop (k+1)))))):=by
      rw[hI.o,JN,af.o,<-an,wg];exact wg _
     have aG:Hid (0<q.den):=q.den_pos;replace hq:=zh hq;replace an:=zh an;clear hI af
     by_cases h1:65<nn.size\/65<dd.size
     .have hf:fin=false:=by
       rw[ar.o]
       rcases h1 with h|h
       .rw[zH (by omega)];rfl
       rw[zH (p:=dd.size<=65) (by omega)];simp
      subst hf;have m1:decide ((65:Int)<max (nn.size:Int) (dd.size:Int))=true:=zG (by omega);have m2:decide (65<max nn.size dd.size)=true:=zG (by omega);replace h1:=zh h1;replace ae:=zh ae;go_wp2;go_ret;exact⟨rfl,d.o⟩
     have m1:decide ((65:Int)<max (nn.size:Int) (dd.size:Int))=false:=zH (by omega);have m2:decide (65<max nn.size dd.size)=false:=zH (by omega)
     have al:Hid (fin=(decide ((T (some (Cc m q.den))).size<=65)&&H7 (Cc m q.den) (l.drop (k+1)))):=by
      rw[ar.o,zG (by omega),zG (p:=dd.size<=65) (by omega)];rfl
     have ah:m<Lim:=zJ hm.o.2 (zQ (wn _ (wC (by decide))) Tl);have ap:q.den<10^65:=(DJ (by decide)).1 (by rw[<-ae];omega);have aD:0<Nat.gcd m q.den:=Nat.gcd_pos_of_pos_left _ hm.o.1;obtain⟨gd,ag⟩:∃g,g=Nat.gcd m q.den:=⟨_,rfl⟩;have aE:gd<Lim:=by rw[ag];exact Gf ah ad
     rw[<-ag]at aD;have ax:q.den/gd<Lim:=zn (wF _ _) ad;have hp:Cc m q.den=m*(q.den/gd):=by unfold Cc;rw[ag]
     have am:m*(q.den/gd)<Lim:=zJ (zn (yr _ (zQ (wF _ _) (xF ap))) (Nat.mul_lt_mul_of_pos_right hm.o.2 (wC (by decide)))) Tl
     have k1:Hid (∀W,Env W->Calls prog 98 #[.string (T (some m)),.string dd] W fun e w'=>e=.returned (.tuple #[.string (T (some gd)),.int .i64 0])/\Below W.heap.size W w'):=fun W hW=>by
      have h:=Sg (some m) (some q.den) W hW (As ah) (As ad)
      have e:Nf (some m) (some q.den)=some gd/\Ng (some m) (some q.den)=0:=by
       have:=Gf ah ad;rw[ag];exact⟨by simp only[Nf,apO,KB,zF this],by simp only[Ng,apE,zF this]⟩
      rw[e.1,e.2,<-ae]at h;exact h
     have k2:Hid (∀W,Env W->Calls prog 99 #[.string dd,.string (T (some gd))] W fun e w'=>(∃r,e=.returned (.tuple #[.string (T (some (q.den/gd))),.string r,.int .i64 0]))/\Below W.heap.size W w'):=fun W hW=>by
      have h:=Nh (some q.den) (some gd) W hW (As ad) (As aE)
      have e:PJ (some q.den) (some gd)=some (q.den/gd)/\PK (some q.den) (some gd)=0:=by
       have:¬gd=0:=by omega
       exact⟨by simp only[PJ,zE this],by simp only[PK,zE this]⟩
      rw[e.1,e.2,<-ae]at h;exact h.mono fun e w' h=>⟨⟨_,h.1⟩,h.2⟩
     have k3:Hid (∀W,Env W->Calls prog 100 #[.string (T (some m)),.string (T (some (q.den/gd)))] W fun e w'=>e=.returned (.tuple #[.string (T (some (Cc m q.den))),.int .i64 0])/\Below W.heap.size W w'):=fun W hW=>by
      have h:=XS (some m) (some (q.den/gd)) W hW (As ah) (As ax)
      have e:Sb (some m) (some (q.den/gd))=some (Cc m q.den)/\Sc (some m) (some (q.den/gd))=0:=by
       rw[hp];exact⟨by simp only[Sb,apO,KB,zF am],by simp only[Sc,apE,zF am]⟩
      rw[e.1,e.2]at h;exact h
     have av:Hid (0<Cc m q.den):=JO hm.o.1 aG.o;have aw:Hid ((T (some (Cc m q.den))).size<=65->Cc m q.den<10^65):=(DJ (by decide)).1;generalize q.den/gd=qd at k2 k3 hp ax am;generalize Cc m q.den=mm at k3 hp al av aw;replace h1:=zh h1;clear ae ad aG ah ap aD ag aE ax hp am ar
     go_wp2_with fail
     refine(k1.o _ (hE.o.below d.o)).q fun w3 hb=>?_;have aj:=d.t hb;have au:=zh (aa.o.below hb);clear hb k1 u0 u1 u2 u9 aa d;have u2:=au.o.c2;have u9:=au.o.lt
     go_wp2_with fail
     refine(k2.o _ (hE.o.below aj.o)).mono ?_;rintro e w4 ⟨⟨r,rfl⟩,hb⟩;have ak:=aj.t hb;clear hb k2 u2 u9 au aj
     go_wp2_with fail
     refine(k3.o _ (hE.o.below ak.o)).q fun w5 hb=>?_;have aA:=ak.t hb;clear hb k3 ak
     by_cases h2:65<(T (some mm)).size
     .have m3:decide ((65:Int)<((T (some mm)).size:Int))=true:=zG (by omega);have m4:decide (65<(T (some mm)).size)=true:=zG h2;have hf:fin=false:=by rw[al.o,zH (by omega)];rfl
      subst hf;replace h2:=zh h2;go_wp2;go_ret;exact⟨rfl,aA.o⟩
     have m3:decide ((65:Int)<((T (some mm)).size:Int))=false:=zH (by omega);have m4:decide (65<(T (some mm)).size)=false:=zH h2;have aI:Hid (fin=H7 mm (l.drop (k+1))):=by rw[al.o,zG (by omega)];rfl
     have aK:Hid (0<mm/\mm<10^65):=⟨av.o,aw.o (by omega)⟩;replace h2:=zh h2;clear al av aw;go_wp2;exact⟨⟨k+1,mm,by omega,by go_num,rfl,aI,aK,aA⟩,by simp only[intOf];omega⟩
  obtain rfl:k=l.length:=by omega
  have hf:fin=true:=by rw[hI.o,List.drop_length];rfl
  subst hf;go_wp2;go_ret;exact⟨rfl,hB.o⟩
end Bd
end
section
open Go.RowKit
namespace Bd
variable {P:Program} {ops:Array Oper} {Q:Exit->Act->World->Prop} {md:Region.Mode} {S:World->Prop} {l n:Nat}
theorem V7{o:Oper}{a:Act}{w:World}{K:Act->World->Prop}(hd:∀c,o.op≠.defer c)(h:o.wp P a w K Q):o.wpIn (Fence.wide.inRound l) n P a w K Q:=by
 refine⟨fun _ _=>trivial,?_⟩;unfold Oper.wp at h;rw[Fence.inRound_round,wG l a.eval o hd];have hz:(Fence.wide.inRound l).depth.isSome=true->1<=n:=fun e=>by simp[Fence.wide]at e
 generalize (execOp a.eval o).run P w=r at *
 cases r with
 |ok x w' =>
  cases x with
  |enter f args=>exact⟨hz,yt l (callsIn_wide.2 h)⟩
  |row r args=>exact⟨hz,fun c cs _=>by obtain⟨v,w2,h1,h2⟩:=h c cs;exact⟨v,w2,h1,stepsIn_wide.2 h2⟩⟩
  |value v=>exact h
  |skip=>exact h
  |defer d=>exact h
  |_=>exact h.elim
 |halt x w'=>cases x<;>first|exact h|exact h.elim
theorem V8{i:Nat}{a:Act}{w:World}{K:Act->World->Prop}(hd:∀(i:Nat) (o:Oper) c,ops[i]? = some o->o.op≠.defer c)(d:¬LetsOut Q)(h:wpOp P ops Q i K a w):wpOpIn (Fence.wide.inRound l) n P ops Q i K a w:=by
 unfold wpOp at h;unfold wpOpIn
 cases ho:ops[i]? with
 |none=>rw[ho]at h;exact h
 |some o=>
  rw[ho]at h;simp only at h ⊢
  split
  .rename_i hw;rw[zF hw]at h
   rcases h with h|⟨_,h⟩
   .exact V7 (fun c=>hd i o c ho) h
   exact absurd h d
  rename_i hw;rw[zE hw]at h;exact⟨fun _ _=>trivial,h⟩
theorem LQ(hd:∀(i:Nat) (o:Oper) c,ops[i]? = some o->o.op≠.defer c)(d:¬LetsOut Q):∀(fuel:Nat)(listed:Array Bool)(a:Act)(w:World),wpAny P md ops Q fuel listed a w->wpAnyIn (Fence.wide.inRound l) n P md ops Q fuel listed a w
 |0,_,_,_,h=>h
 |fuel+1,_,_,_,h=>⟨h.1,fun i hi=>V8 hd d (wpOp_mono (fun a' w' h'=>LQ hd d fuel _ a' w' h') (h.2 i hi))⟩
def Ia(ops:Array Oper):Bool:=ops.all fun o=>match o.op with|.defer _=>false|_=>true
theorem KG(h:Ia ops=true):∀(i:Nat) (o:Oper) c,ops[i]? = some o->o.op≠.defer c:=fun i o c hi e=>by
 unfold Ia at h;rw[Array.all_eq_true]at h;obtain⟨d,e2⟩:=Array.getElem?_eq_some_iff.1 hi;have:=h i d;rw[e2,e]at this
 cases this
theorem KH{id:Nat}{a:Act}{w:World}(hm:P.follows .mixedOrders=true)(hd:Ia ops=true)(d:¬LetsOut Q)
 (h:wpAnyH P .any ops Q S ops.size (Array.replicate ops.size false) a { w with drawn:=w.drawn+1 }):(Code.region id ops true).wpIn (Fence.wide.inRound l) n P Q a w :=
 wpIn_region_any hm (LQ (KG hd) d _ _ _ _ (wpAny_of_held _ _ _ _ h))
theorem Gp{id:Nat}{a:Act}{w:World}(hm:P.follows .mixedOrders=true)(hd:Ia ops=true)(d:¬LetsOut Q)(hS:S w.drew)
 (h:S w.drew->wpAnyH P .any ops Q S ops.size (Array.replicate ops.size false) a w.drew):(Code.region id ops true).wpIn (Fence.wide.inRound l) n P Q a w :=
 KH hm hd d (h hS)
theorem Bz{i fuel:Nat}{listed:Array Bool}{a:Act}{w:World}(hs:Region.noSelect ops=true)(hf:Region.free md ops listed i=true)(hr:(Region.ready md ops listed).contains i=true)(hi:(ops[i]?).isSome=true)(hS:S w)
 (h:∀oi,ops[i]? = some oi->∃v,(∀c a w,Q (.panic c) (a.put oi.dst v) w->Q (.panic c) a w)/\YieldsIf P ops S oi v a/\wpAnyH P md ops Q S fuel (listed.setIfInBounds i true) (a.put oi.dst v) w):wpAnyH P md ops Q S (fuel+1) listed a w:=by
 obtain⟨oi,ho⟩:=Option.isSome_iff_exists.1 hi;obtain⟨v,h1,h2,h3⟩:=h oi ho;exact xZ ho hs hf hr h1 h2 hS h3
theorem Hl{W W':World}(h:Below W.heap.size W W'):KeepsOthers W W':=⟨h.size,fun k o hk _=>by
 have d:=(Array.getElem?_eq_some_iff.1 hk).1;exact(h.block k d).trans hk⟩
def mkD(Ds:List Nat):List Deferred:=Ds.map fun D=>{ target:=.collected D,args:=#[] }
structure Mk(B:Nat)(Ds:List Nat)(W:World):Prop where
 nodup:Ds.Nodup
 at_:∀D,D∈Ds->B<=D/\W.heap[D]? = some (.deferred (some []))
theorem Mk.nil{B:Nat}{W:World}:Mk B [] W:=⟨vL,fun _ h=>by cases h⟩
theorem Mk.lt{B:Nat}{Ds:List Nat}{W:World}(h:Mk B Ds W){D:Nat}(hD:D∈Ds):D<W.heap.size:=(Array.getElem?_eq_some_iff.1 (h.at_ D hD).2).1
theorem Mk.below{B:Nat}{Ds:List Nat}{W W':World}(h:Mk B Ds W)(hb:Below W.heap.size W W'):Mk B Ds W' :=
 ⟨h.nodup,fun D hD=>⟨(h.at_ D hD).1,(hb.block D (h.lt hD)).trans (h.at_ D hD).2⟩⟩
theorem Mk.cons{B D:Nat}{Ds:List Nat}{W:World}(h:Mk B Ds W)(hB:B<=D)(hD:W.heap[D]? = some (.deferred (some [])))(hn:D∉Ds):Mk B (D::Ds) W :=
 ⟨List.nodup_cons.2 ⟨hn,h.nodup⟩,fun E hE=>by rcases List.mem_cons.1 hE with rfl|hE;(· exact⟨hB,hD⟩);(· exact h.at_ E hE)⟩
theorem Bu{F:Fence}{fn:Func}{tmps:Array Value}{R:Ending->World->Prop}{B:Nat}{w:World}(d:B<=w.heap.size):∀(Ds:List Nat)(W:World),Mk B Ds W->Below B w W ->
 (∀W',Below B w W'->(∀k,k∉Ds->W'.heap[k]? = W.heap[k]?)->LeavesInM F n P fn tmps R [] .returning W')->LeavesInM F n P fn tmps R (mkD Ds) .returning W
 | [],W,_,hb,h=>h W hb fun _ _=>rfl
 |D::Ds,W,hm,hb,h=>by
  have hK:=(hm.at_ D (zf ..)).2;have hD:=(hm.at_ D (zf ..)).1;have hn:=List.nodup_cons.1 hm.nodup;refine⟨by simp,.inl ⟨_,_,rfl,xy hK,?_⟩⟩;refine Bu d Ds _ ⟨hn.2,fun E hE=>⟨(hm.at_ E (zY _ hE)).1,(yU (by rintro rfl;exact hn.1 hE)).trans (hm.at_ E (zY _ hE)).2⟩⟩ (hb.trans ((zI B W).grown (xv W D _) (by have:=(Array.getElem?_eq_some_iff.1 hK).1;omega) (fun k e=>by cases e;exact hD))) fun W' h1 h2=>h W' h1 fun k hk=>?_;exact(h2 k fun e=>hk (zY _ e)).trans (yU (by rintro rfl;exact hk (zf ..)))
end Bd
end
section
open Go.RowKit Go.Shelf
attribute [local go_sem] wG
namespace Bd
open Nt Ci
def lkV(x:Lk):Value:=.agg #[.int .i64 x.1,.int .i64 x.2.1,.bool x.2.2.1,.string x.2.2.2.1,.string x.2.2.2.2]
abbrev EF(n:Nat):={ i:Nat // i<n }
def DT(p:Int)(l:List Lk)(k:Nat):List (EF l.length):=(List.range k).filterMap fun j=>if h:j<l.length then (if l[j].1=p then some ⟨j,h⟩ else none) else none
theorem JP(p:Int)(l:List Lk){k:Nat}(h:k<l.length):DT p l (k+1)=DT p l k++(if l[k].1=p then [⟨k,h⟩] else []):=by
 unfold DT;rw[xo,List.filterMap_append,List.filterMap_cons,List.filterMap_nil,dif_pos h]
 by_cases c:l[k].1=p
 .rw[zF c,zF c]
 rw[zE c,zE c]
theorem FB(p:Int)(l:List Lk)(k:Nat):(DT p l k).length<=k:=zQ (List.length_filterMap_le _ _) (by rw[yh];exact zB _)
def Kq(n₀ pb:Nat)(W W':World):Prop:=Below n₀ W W'/\W'.heap[pb]? = W.heap[pb]?
theorem Kq.refl{n₀ pb:Nat}(W:World):Kq n₀ pb W W:=⟨zI _ _,rfl⟩
theorem Kq.trans{n₀ pb:Nat}{A B C:World}(h:Kq n₀ pb A B)(k:Kq n₀ pb B C):Kq n₀ pb A C:=⟨h.1.trans k.1,k.2.trans h.2⟩
theorem Kq.alloc{n₀ pb:Nat}{A B:World}(h:Kq n₀ pb A B)(hn:n₀<=B.heap.size)(hp:pb<B.heap.size)(o:Obj):Kq n₀ pb A (B.alloc o):=⟨h.1.alloc hn _,(yP B o pb hp).trans h.2⟩
theorem Kq.set{n₀ pb:Nat}{A B:World}(h:Kq n₀ pb A B){a:Addr}(hn:n₀<=a.block)(hp:pb≠a.block)(v:Value):Kq n₀ pb A (B.setCell a v):=⟨h.1.setCell hn v,(zg B a v pb hp).trans h.2⟩
theorem Kq.below{n₀ pb:Nat}{A B C:World}(h:Kq n₀ pb A B)(hb:Below B.heap.size B C)(hn:n₀<=B.heap.size)(hp:pb<B.heap.size):Kq n₀ pb A C:=⟨h.1.trans (hb.mono hn),(hb.block pb hp).trans h.2⟩
theorem Yj{n₀ pb:Nat}{w:World}(hn:n₀<=w.heap.size)(hp:pb<w.heap.size)(W:World)(l:Nat)(o o':Obj)(hl:w.heap.size<=l)(h:W.heap[l]? = some o)(h1:o.isCells=false)(h2:o.isWalk=false):Kq n₀ pb W (W.putObj l o') :=
 ⟨belowK_b hn W l o o' hl h h1 h2,yU (by omega)⟩
theorem LR(F:Fence)(n:Nat)(hf:F.fn 101)(aw:F.round=none)(hn:1<=n)(s:SR)(Ap Ac Av:Option Addr)(cp cc cv:Nat)(l sb pb n₀:Nat)(p:Int)(J Jx:List (EF s.cap.length)->World->Prop)
 (W:World)(hJ:AbidesFrom W.heap.size J)(hc:InLk W Ac s.cap)(ax:s.cap.length<=140737488355328)(ar:n₀<=W.heap.size)(ag:0<s.cap.length->∀b o,Ac=some ⟨b,o,none⟩->b<n₀)(au:pb<W.heap.size)
 (hS:Bk W sb 32 [.slice Ap s.ps.length cp,.slice Ac s.cap.length cc,.slice Av s.vot.length cv])(hP:W.cell? ⟨pb,0,none⟩=some (.int .i64 p))
 (hY:∀pre x W1,J pre W1->pre.length<s.cap.length->YieldAt F (n-1) prog l #[lkV (s.cap[x.1]'x.2)] W1 fun e W' =>
   (e=.returned (.bool true)/\J (pre++[x]) W'/\Kq n₀ pb W1 W')\/(e=.returned (.bool false)/\Jx (pre++[x]) W'))
 (h0:J [] W):
 CallsIn F n prog 101 #[.func (.yield l) #[] #[],.pointer (some ⟨sb,0,none⟩),.pointer (some ⟨pb,0,none⟩)] W fun e W'=>(∃v,e=.returned v) /\
  ((∃ys,ys=DT p s.cap s.cap.length/\J ys W')\/(∃pre,(∃k,k<=s.cap.length/\pre=DT p s.cap k)/\Jx pre W')):=by
 have u0:=hS.c0;have u1:=hS.c1;have u9:=hS.lt;have aj:Hid (J (DT p s.cap 0) W):=h0;have ah:Hid (Kq n₀ pb W W):=Kq.refl _;replace hc:=zh hc;replace hJ:=zh hJ;replace ag:=zh ag;replace hY:=zh hY;clear h0;refine vW func101 rfl hf ?_ aw;simp only[ntmps101,yq,zZ,yR,Nat.reduceAdd,Nat.reduceSub,yW,yX,yv,yj,yM,yY]
 gi_wp2
 gi_loopw [9] (fun i wr=>∃k:Nat,k<=s.cap.length/\i=.int .i64 (k:Int)/\Hid (J (DT p s.cap k) wr)/\Hid (Kq n₀ pb W wr))
  (fun i _=>s.cap.length-(intOf i).toNat)
 case atStart=>exact⟨0,zS _,rfl,aj,ah⟩
 case round=>
  clear aj ah;obtain⟨k,hk,rfl,ak,aa⟩:=hrel;obtain⟨wz,rfl⟩:∃z,z=wr:=⟨_,rfl⟩
  by_cases hlt:k<s.cap.length
  .obtain ⟨b,o,rfl,ap,am⟩:=hc.o (by omega);obtain⟨e0,e1,e2,e3,e4⟩:=am k hlt;have af:=ag.o (by omega) b o rfl;replace e0:=(aa.o.1.cell (p:=⟨b,o+k*5,none⟩) af).trans e0;replace e1:=(aa.o.1.cell (p:=⟨b,o+k*5+1,none⟩) af).trans e1;replace e2:=(aa.o.1.cell (p:=⟨b,o+k*5+2,none⟩) af).trans e2;replace e3:=(aa.o.1.cell (p:=⟨b,o+k*5+3,none⟩) af).trans e3;replace e4:=(aa.o.1.cell (p:=⟨b,o+k*5+4,none⟩) af).trans e4;have ay:=zJ ap aa.o.1.size;have aA:wz.cell? ⟨pb,0,none⟩=some (.int .i64 p):=by rw[<-hP];exact zU (w:=W) aa.o.2
   have av:pb<wz.heap.size:=zJ au aa.o.1.size;have d:=JP p s.cap hlt;have az:=FB p s.cap k;obtain⟨x,hx⟩:∃x,x=s.cap[k]:=⟨_,rfl⟩;rw[<-hx]at e0 e1 e2 e3 e4 d;obtain⟨co,ho,gg,nn,dd⟩:=x;dsimp only at e0 e1 e2 e3 e4 d;have ad:J (DT p s.cap k) (wz.alloc (.cells #[.int .i64 co,.int .i64 ho,.bool gg,.string nn,.string dd] 106)):=hJ.o _ _ _ none ak.o (World.grownBy_alloc wz _ none) (fun r e=>by cases e);have ai:Hid (Kq n₀ pb W (wz.alloc (.cells #[.int .i64 co,.int .i64 ho,.bool gg,.string nn,.string dd] 106))):=aa.o.alloc (zQ ar aa.o.1.size) av _;have j0:(0:Int)<=(k:Int):=by omega
   have j1:(k:Int)<(s.cap.length:Int):=by omega
   replace hx:=zh hx;clear am
   by_cases hcp:co=p
   .rw [zF hcp]at d;have m1:(co==p)=true:=beq_iff_eq.2 hcp;obtain⟨fn,tmps,assign,body,hy,hR⟩:=hY.o _ ⟨k,hlt⟩ _ ad (by omega);dsimp only at hy;rw[<-hx.o]at hy;dsimp only[lkV]at hy;replace d:=zh d;replace hcp:=zh hcp;replace ad:=zh ad
    gi_wp2
    refine hR.mono ?_;rintro e W3 (⟨rfl,ao,aq⟩|⟨rfl,al⟩)
    .have ae:Hid (J (DT p s.cap (k+1)) W3):=by rw[d.o];exact ao
     have an:Hid (Kq n₀ pb W W3):=ai.o.trans aq
     gi_wp2
     go_roundw
     case rel=>exact⟨k+1,by omega,by go_num,ae,an⟩
     case measure=>simp[intOf];omega
    have ae:Hid (Jx (DT p s.cap (k+1)) W3):=by rw[d.o];exact al
    gi_wp2
    refine zo (results_none rfl _ _ _) rfl ?_;exact⟨⟨_,rfl⟩,.inr ⟨_,⟨k+1,by omega,rfl⟩,ae.o⟩⟩
   rw[zE hcp,xV]at d;have m1:(co==p)=false:=by rw[zN];exact hcp
   have ae:Hid (J (DT p s.cap (k+1)) (wz.alloc (.cells #[.int .i64 co,.int .i64 ho,.bool gg,.string nn,.string dd] 106))):=by rw[d];exact ad
   replace d:=zh d;replace hcp:=zh hcp;replace ad:=zh ad
   gi_wp2
   refine⟨fun _ h=>(by cases h),?_⟩
   gi_wp2
   go_roundw
   case rel=>exact⟨k+1,by omega,by go_num,ae,ai⟩
   case measure=>simp[intOf];omega
  obtain rfl:k=s.cap.length:=by omega
  gi_wp2
  go_end0;exact⟨⟨_,rfl⟩,.inl ⟨_,rfl,ak.o⟩⟩
theorem FC(F:Fence)(n:Nat)(hf:F.fn 101)(ae:F.round=none)(hn:1<=n)(s:SR)(Ap Ac Av:Option Addr)(cp cc cv:Nat)(sb pb n₀:Nat)(p:Int)
 (w:World)(hc:InLk w Ac s.cap)(h:s.cap.length<=140737488355328)(ad:n₀<=w.heap.size)(aa:0<s.cap.length->∀b o,Ac=some ⟨b,o,none⟩->b<n₀)(d:pb<w.heap.size)
 (hS:Bk w sb 32 [.slice Ap s.ps.length cp,.slice Ac s.cap.length cc,.slice Av s.vot.length cv])(hP:w.cell? ⟨pb,0,none⟩=some (.int .i64 p)):
 SeqStopsK F n prog 101 #[.pointer (some ⟨sb,0,none⟩),.pointer (some ⟨pb,0,none⟩)] (fun x:EF s.cap.length=>#[lkV (s.cap[x.1]'x.2)]) (Kq n₀ pb) (fun ys=>ys=DT p s.cap s.cap.length)
  (fun pre=>∃k,k<=s.cap.length/\pre=DT p s.cap k) s.cap.length w:=fun l J Jx W hW hJ _ hY h0=>
 LR F n hf ae hn s Ap Ac Av cp cc cv l sb pb n₀ p J Jx W hJ (hc.below hW) h (zQ ad hW.size) aa (zJ d hW.size) (hS.below hW) ((hW.cell (p:=⟨pb,0,none⟩) d).trans hP) hY h0
theorem Hm(s:SR)(Ap Ac Av:Option Addr)(cp cc cv:Nat)(p:Int)(w:World):
 Calls prog 50 #[.agg #[.slice Ap s.ps.length cp,.slice Ac s.cap.length cc,.slice Av s.vot.length cv],.int .i64 p] w fun e w' =>
  e=.returned (.func (.func 101) #[] #[.pointer (some ⟨w.heap.size,0,none⟩),.pointer (some ⟨w.heap.size+1,0,none⟩)]) /\
  w'=(w.alloc (.cells #[.slice Ap s.ps.length cp,.slice Ac s.cap.length cc,.slice Av s.vot.length cv] 32)).alloc (.cells #[.int .i64 p] 3):=by
 go_enter func50,ntmps50;go_wp2;go_ret;exact⟨rfl,rfl⟩
end Bd
end
section
open Go.RowKit Go.Shelf
namespace Sh
open Nt Ci
theorem Hn(q:Rat):∃g n d,qv q=.agg #[.bool g,.string n,.string d]:=⟨_,_,_,rfl⟩
theorem Tm(n:Int):ofQ n 1=(n:Rat):=by
 unfold ofQ;rw[show decide ((1:Int)<0)=false from rfl]
 have e:sg (!(decide (n<0)==false)) n.natAbs=n:=by
  have:=Cg n
  cases h:decide (n<0) with
  |true=>rw[h]at this;exact this
  |false=>rw[h]at this;exact this
 rw[e];exact Rat.mkRat_one n
theorem JQ(k:Int)(hk:-10<=k/\k<=10)(w:World)(hE:Env w):
 Calls prog 36 #[.int .i64 k] w fun e w'=>e=.returned (qv (k:Rat))/\Below w.heap.size w w':=by
 obtain⟨g,n,d,hq⟩:=Hn (k:Rat);have ad:Hid (Below w.heap.size w (w.alloc (.cells #[.bool false,.string ⟨#[]⟩,.string ⟨#[]⟩] 48))):=((zI _ w).alloc (zB _) _);have ag:Hid (Bk (w.alloc (.cells #[.bool false,.string ⟨#[]⟩,.string ⟨#[]⟩] 48)) (w.heap.size) 48 [.bool false,.string ⟨#[]⟩,.string ⟨#[]⟩]):=by have h:=Bk.new w 48 [.bool false,.string ⟨#[]⟩,.string ⟨#[]⟩]; exact h
 have ko:Hid (Calls prog 56 #[.int .i64 k,.int .i64 1] (w.alloc (.cells #[.bool false,.string ⟨#[]⟩,.string ⟨#[]⟩] 48)) fun e w'=>e=.returned (.tuple #[.agg #[.bool g,.string n,.string d],.int .i64 0])/\Below ((w.alloc (.cells #[.bool false,.string ⟨#[]⟩,.string ⟨#[]⟩] 48))).heap.size (w.alloc (.cells #[.bool false,.string ⟨#[]⟩,.string ⟨#[]⟩] 48)) w'):=by have h:=Fm k 1 (by omega) (by omega) (by omega) (by omega) (by omega) (w.alloc (.cells #[.bool false,.string ⟨#[]⟩,.string ⟨#[]⟩] 48)) (hE.below ad.o);rw[Tm,hq]at h;exact h
 have u1:=hk.1;have u2:=hk.2;replace hE:=zh hE;go_enter func36,ntmps36
 go_wp2_with fail
 refine ko.o.q fun w3 hb=>?_;have af:=ad.t hb;have ah:=zh (ag.o.below hb);clear hb ad ag ko;have ai:Hid (Below w.heap.size w (w3.alloc (.cells #[.bool g,.string n,.string d] 48))):=af.o.alloc af.o.size _;have aa:=zh (ah.o.alloc (.cells #[.bool g,.string n,.string d] 48));clear af ah;have ak:Hid (Bk (w3.alloc (.cells #[.bool g,.string n,.string d] 48)) w3.heap.size 48 [.bool g,.string n,.string d]):=Bk.new _ _ _;have r0:=aa.o.c0;have r1:=aa.o.c1;have r2:=aa.o.c2;have r9:=aa.o.lt;have al:=aa.o.frozen 0;have am:=aa.o.frozen 1;have an:=aa.o.frozen 2;have aj:Hid (Below w.heap.size w ((((w3.alloc (.cells #[.bool g,.string n,.string d] 48)).setCell ⟨w.heap.size,0,none⟩ (.bool g)).setCell ⟨w.heap.size,1,none⟩ (.string n)).setCell ⟨w.heap.size,2,none⟩ (.string d))):=(((ai.o.setCell (p:=⟨w.heap.size,0,none⟩) (zB _) _).setCell (p:=⟨w.heap.size,1,none⟩) (zB _) _).setCell (p:=⟨w.heap.size,2,none⟩) (zB _) _);have ae:Hid (Bk ((((w3.alloc (.cells #[.bool g,.string n,.string d] 48)).setCell ⟨w.heap.size,0,none⟩ (.bool g)).setCell ⟨w.heap.size,1,none⟩ (.string n)).setCell ⟨w.heap.size,2,none⟩ (.string d)) (w.heap.size) 48 [.bool g,.string n,.string d]):=(Bk.set (Bk.set (Bk.set aa.o 0 (.bool g)) 1 (.string n)) 2 (.string d));go_wp2
 (try simp only[Exit.inBlock,Exit.then])
 have s0:=ae.o.c0;have s1:=ae.o.c1;have s2:=ae.o.c2;have s9:=ae.o.lt;refine zo (v:=.agg #[.bool g,.string n,.string d]) (by simp[results,results36,go_sem,s0,s1,s2]) rfl ⟨by rw[hq],aj.o⟩
theorem NO(s x y:Rat)(hs:ShortQ s)(hx:ShortQ x)(hy:ShortQ y)(ay:ShortQ (x*y))(w:World)(hE:Env w):
 Calls prog 76 #[qv s,qv x,qv y] w fun e w'=>e=.returned (qv (s+x*y))/\Below w.heap.size w w':=by
 obtain⟨g1,n1,d1,q1⟩:=Hn s;obtain⟨g2,n2,d2,q2⟩:=Hn x;obtain⟨g3,n3,d3,q3⟩:=Hn y;obtain⟨g4,n4,d4,q4⟩:=Hn (x*y);obtain⟨g5,n5,d5,q5⟩:=Hn (s+x*y);have km:Hid (∀W,Env W->Calls prog 51 #[.agg #[.bool g2,.string n2,.string d2],.agg #[.bool g3,.string n3,.string d3]] W fun e w'=>e=.returned (.tuple #[.agg #[.bool g4,.string n4,.string d4],.int .i64 0])/\Below W.heap.size W w'):=fun W hW=>by have h:=Fl x y hx hy W hW;rw[q2,q3,q4]at h;exact h
 have ka:Hid (∀W,Env W->Calls prog 52 #[.agg #[.bool g1,.string n1,.string d1],.agg #[.bool g4,.string n4,.string d4]] W fun e w'=>e=.returned (.tuple #[.agg #[.bool g5,.string n5,.string d5],.int .i64 0])/\Below W.heap.size W w'):=fun W hW=>by have h:=GE s (x*y) hs ay W hW;rw[q1,q4,q5]at h;exact h
 rw[q1,q2,q3,q5];clear q1 q2 q3 q4 q5 hs hx hy ay;have ag:Hid (Below w.heap.size w ((((w.alloc (.cells #[.bool g1,.string n1,.string d1] 48)).alloc (.cells #[.bool g2,.string n2,.string d2] 48)).alloc (.cells #[.bool g3,.string n3,.string d3] 48)).alloc (.cells #[.bool false,.string ⟨#[]⟩,.string ⟨#[]⟩] 48))):=(((((zI _ w).alloc (zB _) _).alloc (by simp) _).alloc (by simp;omega) _).alloc (by simp;omega) _);have al:Hid (Bk ((((w.alloc (.cells #[.bool g1,.string n1,.string d1] 48)).alloc (.cells #[.bool g2,.string n2,.string d2] 48)).alloc (.cells #[.bool g3,.string n3,.string d3] 48)).alloc (.cells #[.bool false,.string ⟨#[]⟩,.string ⟨#[]⟩] 48)) (w.heap.size) 48 [.bool g1,.string n1,.string d1]):=by have h:=Bk.new w 48 [.bool g1,.string n1,.string d1];have h:=h.alloc (.cells #[.bool g2,.string n2,.string d2] 48);have h:=h.alloc (.cells #[.bool g3,.string n3,.string d3] 48);have h:=h.alloc (.cells #[.bool false,.string ⟨#[]⟩,.string ⟨#[]⟩] 48); exact h
 have ae:Hid (Bk ((((w.alloc (.cells #[.bool g1,.string n1,.string d1] 48)).alloc (.cells #[.bool g2,.string n2,.string d2] 48)).alloc (.cells #[.bool g3,.string n3,.string d3] 48)).alloc (.cells #[.bool false,.string ⟨#[]⟩,.string ⟨#[]⟩] 48)) (w.heap.size+1) 48 [.bool g2,.string n2,.string d2]):=by have h:=Bk.new (w.alloc (.cells #[.bool g1,.string n1,.string d1] 48)) 48 [.bool g2,.string n2,.string d2];have h:=h.alloc (.cells #[.bool g3,.string n3,.string d3] 48);have h:=h.alloc (.cells #[.bool false,.string ⟨#[]⟩,.string ⟨#[]⟩] 48);simp only[zV]at h;exact h
 have af:Hid (Bk ((((w.alloc (.cells #[.bool g1,.string n1,.string d1] 48)).alloc (.cells #[.bool g2,.string n2,.string d2] 48)).alloc (.cells #[.bool g3,.string n3,.string d3] 48)).alloc (.cells #[.bool false,.string ⟨#[]⟩,.string ⟨#[]⟩] 48)) (w.heap.size+1+1) 48 [.bool g3,.string n3,.string d3]):=by have h:=Bk.new ((w.alloc (.cells #[.bool g1,.string n1,.string d1] 48)).alloc (.cells #[.bool g2,.string n2,.string d2] 48)) 48 [.bool g3,.string n3,.string d3];have h:=h.alloc (.cells #[.bool false,.string ⟨#[]⟩,.string ⟨#[]⟩] 48);simp only[zV]at h;exact h
 have au:Hid (Bk ((((w.alloc (.cells #[.bool g1,.string n1,.string d1] 48)).alloc (.cells #[.bool g2,.string n2,.string d2] 48)).alloc (.cells #[.bool g3,.string n3,.string d3] 48)).alloc (.cells #[.bool false,.string ⟨#[]⟩,.string ⟨#[]⟩] 48)) (w.heap.size+1+1+1) 48 [.bool false,.string ⟨#[]⟩,.string ⟨#[]⟩]):=by have h:=Bk.new (((w.alloc (.cells #[.bool g1,.string n1,.string d1] 48)).alloc (.cells #[.bool g2,.string n2,.string d2] 48)).alloc (.cells #[.bool g3,.string n3,.string d3] 48)) 48 [.bool false,.string ⟨#[]⟩,.string ⟨#[]⟩];simp only[zV]at h;exact h
 replace hE:=zh hE;have k1:=zh (km.o ((((w.alloc (.cells #[.bool g1,.string n1,.string d1] 48)).alloc (.cells #[.bool g2,.string n2,.string d2] 48)).alloc (.cells #[.bool g3,.string n3,.string d3] 48)).alloc (.cells #[.bool false,.string ⟨#[]⟩,.string ⟨#[]⟩] 48)) (hE.o.below ag.o));have y0:=ae.o.c0;have y1:=ae.o.c1;have y2:=ae.o.c2;have y9:=ae.o.lt;have z0:=af.o.c0;have z1:=af.o.c1;have z2:=af.o.c2;have z9:=af.o.lt;go_enter func76,ntmps76
 go_wp2_with fail
 refine k1.o.q fun w3 hb=>?_;have aj:=ag.t hb;have am:=zh (al.o.below hb);have an:=zh (ae.o.below hb);have ap:=zh (af.o.below hb);have av:=zh (au.o.below hb);clear hb ag al ae af au k1 y0 y1 y2 y9 z0 z1 z2 z9;have ah:Hid (Below w.heap.size w (w3.alloc (.cells #[.bool g4,.string n4,.string d4] 48))):=aj.o.alloc aj.o.size _;have ad:=zh (am.o.alloc (.cells #[.bool g4,.string n4,.string d4] 48));have ao:=zh (an.o.alloc (.cells #[.bool g4,.string n4,.string d4] 48));have aq:=zh (ap.o.alloc (.cells #[.bool g4,.string n4,.string d4] 48));have aw:=zh (av.o.alloc (.cells #[.bool g4,.string n4,.string d4] 48));clear aj am an ap av;have ar:Hid (Bk (w3.alloc (.cells #[.bool g4,.string n4,.string d4] 48)) w3.heap.size 48 [.bool g4,.string n4,.string d4]):=Bk.new _ _ _;have k2:=zh (ka.o (w3.alloc (.cells #[.bool g4,.string n4,.string d4] 48)) (hE.o.below ah.o));have x0:=ad.o.c0;have x1:=ad.o.c1;have x2:=ad.o.c2;have x9:=ad.o.lt
 go_wp2_with fail
 refine k2.o.q fun w5 hb=>?_;have ak:=ah.t hb;have d:=zh (ad.o.below hb);have aC:=zh (ao.o.below hb);have aD:=zh (aq.o.below hb);have ax:=zh (aw.o.below hb);have aE:=zh (ar.o.below hb);clear hb ah ad ao aq aw ar k2 x0 x1 x2 x9;have x0:=d.o.c0;have x1:=d.o.c1;have x2:=d.o.c2;have x9:=d.o.lt;have aI:=d.o.frozen 0;have aJ:=d.o.frozen 1;have aK:=d.o.frozen 2;have az:Hid (Below w.heap.size w (((w5.setCell ⟨w.heap.size,0,none⟩ (.bool g5)).setCell ⟨w.heap.size,1,none⟩ (.string n5)).setCell ⟨w.heap.size,2,none⟩ (.string d5))):=(((ak.o.setCell (p:=⟨w.heap.size,0,none⟩) (zB _) _).setCell (p:=⟨w.heap.size,1,none⟩) (zB _) _).setCell (p:=⟨w.heap.size,2,none⟩) (zB _) _);have aB:=zh ((Bk.set (Bk.set (Bk.set d.o 0 (.bool g5)) 1 (.string n5)) 2 (.string d5)));have aa:=zh ((((ax.o.far (p:=⟨w.heap.size,0,none⟩) (by first|(simp only[];omega)|omega) (.bool g5)).far (p:=⟨w.heap.size,1,none⟩) (by first|(simp only[];omega)|omega) (.string n5)).far (p:=⟨w.heap.size,2,none⟩) (by first|(simp only[];omega)|omega) (.string d5)));clear ak d ax;have r0:=aa.o.c0;have r1:=aa.o.c1;have r2:=aa.o.c2;have r9:=aa.o.lt;have aF:=aa.o.frozen 0;have aG:=aa.o.frozen 1;have aH:=aa.o.frozen 2;have aA:Hid (Below w.heap.size w ((((((w5.setCell ⟨w.heap.size,0,none⟩ (.bool g5)).setCell ⟨w.heap.size,1,none⟩ (.string n5)).setCell ⟨w.heap.size,2,none⟩ (.string d5)).setCell ⟨w.heap.size+1+1+1,0,none⟩ (.bool g5)).setCell ⟨w.heap.size+1+1+1,1,none⟩ (.string n5)).setCell ⟨w.heap.size+1+1+1,2,none⟩ (.string d5))):=(((az.o.setCell (p:=⟨w.heap.size+1+1+1,0,none⟩) (by simp only[];omega) _).setCell (p:=⟨w.heap.size+1+1+1,1,none⟩) (by simp only[];omega) _).setCell (p:=⟨w.heap.size+1+1+1,2,none⟩) (by simp only[];omega) _);have ai:Hid (Bk ((((((w5.setCell ⟨w.heap.size,0,none⟩ (.bool g5)).setCell ⟨w.heap.size,1,none⟩ (.string n5)).setCell ⟨w.heap.size,2,none⟩ (.string d5)).setCell ⟨w.heap.size+1+1+1,0,none⟩ (.bool g5)).setCell ⟨w.heap.size+1+1+1,1,none⟩ (.string n5)).setCell ⟨w.heap.size+1+1+1,2,none⟩ (.string d5)) (w.heap.size+1+1+1) 48 [.bool g5,.string n5,.string d5]):=(Bk.set (Bk.set (Bk.set aa.o 0 (.bool g5)) 1 (.string n5)) 2 (.string d5));go_wp2
 (try simp only[Exit.inBlock,Exit.then])
 have s0:=ai.o.c0;have s1:=ai.o.c1;have s2:=ai.o.c2;have s9:=ai.o.lt;refine zo (v:=.agg #[.bool g5,.string n5,.string d5]) (by simp[results,results76,go_sem,s0,s1,s2]) rfl ⟨rfl,aA.o⟩
end Sh
end
section
namespace Sh
open Nt
def IsI(x:Rat):Prop:=∃z:Int,x=(z:Rat)
theorem IsI.zero:IsI 0:=⟨0,by simp⟩
theorem IsI.one:IsI 1:=⟨1,by simp⟩
theorem IsI.add{x y:Rat}(h1:IsI x)(h2:IsI y):IsI (x+y):=by
 obtain⟨a,rfl⟩:=h1;obtain⟨b,rfl⟩:=h2;exact⟨a+b,by simp[Rat.intCast_add]⟩
theorem IsI.mul{x y:Rat}(h1:IsI x)(h2:IsI y):IsI (x*y):=by
 obtain⟨a,rfl⟩:=h1;obtain⟨b,rfl⟩:=h2;exact⟨a*b,by simp[Rat.intCast_mul]⟩
theorem IsI.neg{x:Rat}(h1:IsI x):IsI (-x):=by
 obtain⟨a,rfl⟩:=h1;exact⟨-a,by simp[Rat.intCast_neg]⟩
theorem IsI.sum{n:Nat}{f:Nat->Rat}(h:∀i,i<n->IsI (f i)):IsI (At n f):=by
 induction n with
 |zero=>exact IsI.zero
 |succ n ih=>unfold At;exact(ih fun i hi=>h i (by omega)).add (h n (by omega))
def skip(i r:Nat):Nat:=if r<i then r else r+1
def sgn:Nat->Rat
 |0=>1
 |n+1=>- sgn n
theorem V9(n:Nat):IsI (sgn n):=by
 induction n with
 |zero=>exact IsI.one
 |succ n ih=>exact ih.neg
def det:Nat->Mx->Rat
 |0,_=>1
 |n+1,M=>At (n+1) fun i=>sgn i*M i 0*det n fun r c=>M (skip i r) (c+1)
theorem Eg:∀{n:Nat} {M N:Mx},(∀i j,i<n->j<n->M i j=N i j)->det n M=det n N:=by
 intro n
 induction n with
 |zero=>intros;rfl
 |succ n ih=>
  intro M N h;unfold det;apply Az;intro i hi;rw[h i 0 hi (by omega),ih (M:=fun r c=>M (skip i r) (c+1)) (N:=fun r c=>N (skip i r) (c+1))];intro r c hr hc;exact h _ _ (by unfold skip;split<;>omega) (by omega)
def AF(r:Nat)(u:Nat->Rat)(M:Mx):Mx:=fun i=>if i=r then u else M i
theorem KI{i r:Nat}(h:r≠i):∃t,skip i t=r/\∀s,skip i s=r<->s=t:=by
 by_cases c:r<i
 .refine⟨r,by unfold skip;rw[zF c],fun s=>?_⟩;unfold skip;split<;>omega
 refine⟨r-1,by unfold skip;rw[zE (by omega)];omega,fun s=>?_⟩;unfold skip;split<;>omega
theorem Dz{i:Nat}(u:Nat->Rat)(M:Mx):(fun r c=>AF i u M (skip i r) (c+1))=fun r c=>M (skip i r) (c+1):=by
 funext r c
 unfold AF;rw[zE (by unfold skip;split<;>omega)]
theorem CT{i r t:Nat}(u:Nat->Rat)(M:Mx)(h:∀s,skip i s=r<->s=t):(fun s c=>AF r u M (skip i s) (c+1))=AF t (fun c=>u (c+1)) fun s c=>M (skip i s) (c+1):=by
 funext s c
 unfold AF
 by_cases e:s=t
 .rw[zF ((h s).2 e),zF e]
 rw[zE (fun e2=>e ((h s).1 e2)),zE e]
theorem OS{i r t n:Nat}(h:skip i t=r)(hr:r<n+1)(hi:i<n+1)(_:r≠i):t<n:=by
 unfold skip at h;split at h<;>omega
theorem Gq:∀{n r:Nat} (u v:Nat->Rat) (a b:Rat) (M:Mx),r<n->det n (AF r (fun j=>a*u j+b*v j) M)=a*det n (AF r u M)+b*det n (AF r v M):=by
 intro n
 induction n with
 |zero=>intro r u v a b M h;omega
 |succ n ih=>
  intro r u v a b M hr;unfold det;rw[<-AW,<-AW,<-CE];apply Az;intro i hi
  by_cases e:r=i
  .subst e;rw[Dz,Dz,Dz];unfold AF;rw[zF rfl,zF rfl,zF rfl];grind
  obtain⟨t,h1,h2⟩:=KI e;rw[CT _ _ h2,CT _ _ h2,CT _ _ h2,ih _ _ _ _ _ (OS h1 hr hi e)];unfold AF;rw[zE (fun h=>e h.symm),zE (fun h=>e h.symm),zE (fun h=>e h.symm)];grind
theorem Qq{n k:Nat}(f:Nat->Rat)(hk:k+1<n)(h:∀i,i<n->i≠k->i≠k+1->f i=0):At n f=f k+f (k+1):=by
 induction n with
 |zero=>omega
 |succ n ih=>
  unfold At
  by_cases e:k+1=n
  .subst e;rw[Ck (k:=k) f (by omega) fun i hi d=>h i (by omega) d (by omega)]
  rw[ih (by omega) fun i hi a b=>h i (by omega) a b,h n (by omega) (by omega) (by omega)];grind
theorem OT:∀{n r:Nat} {M:Mx},r+1<n->(∀j,j<n->M r j=M (r+1) j)->det n M=0:=by
 intro n
 induction n with
 |zero=>intro r M h;omega
 |succ n ih=>
  intro r M hr he;unfold det;rw[Qq (k:=r) _ hr]
  .have e1:det n (fun s c=>M (skip r s) (c+1))=det n (fun s c=>M (skip (r+1) s) (c+1)):=by
    apply Eg;intro s c hs hc;unfold skip
    by_cases c1:s<r
    .rw[zF c1,zF (by omega)]
    by_cases c2:s=r
    .subst c2;rw[zE (by omega),zF (by omega)];exact(he _ (by omega)).symm
    rw[zE c1,zE (by omega)]
   rw[e1,he 0 (by omega)]
   show sgn r*_*_+(- sgn r)*_*_=0
   grind
  intro i hi h1 h2;obtain⟨t,k1,k2⟩:=KI (i:=i) (r:=r) (fun e=>h1 e.symm);obtain⟨t2,l1,l2⟩:=KI (i:=i) (r:=r+1) (fun e=>h2 e.symm)
  have:t2=t+1:=by
   have a:skip i (t+1)=r+1:=by unfold skip at k1 ⊢;split at k1<;>split<;>omega
   exact((l2 _).1 a).symm
  subst this;have ht:t+1<n:=OS l1 hr hi (fun e=>h2 e.symm);rw[ih (r:=t) ht]
  .grind
  intro j hj;rw[k1,l1];exact he _ (by omega)
theorem Eh(r:Nat)(M:Mx):AF r (M r) M=M:=by
 funext i
 unfold AF
 split
 .next h=>rw[h]
 rfl
theorem GK{r s:Nat}(h:r≠s)(u v:Nat->Rat)(M:Mx):AF r u (AF s v M)=AF s v (AF r u M):=by
 funext i
 unfold AF
 by_cases e1:i=r
 .rw[zF e1,zE (by omega),zF e1]
 rw[zE e1]
 by_cases e2:i=s
 .rw[zF e2,zF e2]
 rw[zE e2,zE e2,zE e1]
theorem Qr(r:Nat)(u v:Nat->Rat)(M:Mx):AF r u (AF r v M)=AF r u M:=by
 funext i
 unfold AF
 split<;>rfl
theorem Tn{n r:Nat}(u v:Nat->Rat)(M:Mx)(hr:r+1<n):det n (AF r u (AF (r+1) v M))=- det n (AF r v (AF (r+1) u M)):=by
 have z:∀x:Nat->Rat,det n (AF r x (AF (r+1) x M))=0:=fun x=>OT hr fun j _=>by
  unfold AF;rw[zF rfl,zE (by omega),zF rfl]
 have l1:∀x y z:Nat->Rat,det n (AF r (fun j=>1*x j+1*y j) (AF (r+1) z M))=1*det n (AF r x (AF (r+1) z M))+1*det n (AF r y (AF (r+1) z M)):=fun x y z=>Gq x y 1 1 _ (by omega)
 have l2:∀x y z:Nat->Rat,det n (AF r z (AF (r+1) (fun j=>1*x j+1*y j) M))=1*det n (AF r z (AF (r+1) x M))+1*det n (AF r z (AF (r+1) y M)):=fun x y z=>by
  rw[GK (by omega),GK (by omega) z x,GK (by omega) z y];exact Gq x y 1 1 _ hr
 have h:=z fun j=>1*u j+1*v j;rw[l1,l2,l2,z u,z v]at h;grind
theorem To:∀{d n r:Nat} {M:Mx},r+1+d<n->(∀j,j<n->M r j=M (r+1+d) j)->det n M=0:=by
 intro d
 induction d with
 |zero=>intro n r M h he;exact OT h he
 |succ d ih=>
  intro n r M h he
  have h1:M=AF (r+1+d) (M (r+1+d)) (AF (r+1+d+1) (M (r+1+(d+1))) M):=by
   have e1:=Eh (r+1+d+1) M;rw[show r+1+(d+1)=r+1+d+1 by omega,e1,Eh]
  rw[h1,Tn _ _ _ (by omega),ih (r:=r) (by omega)]
  .rfl
  intro j hj;unfold AF;rw[zE (by omega),zE (by omega),zF rfl];exact he j hj
theorem OU{n r s:Nat}{M:Mx}(hr:r<n)(hs:s<n)(h:r≠s)(he:∀j,j<n->M r j=M s j):det n M=0:=by
 by_cases c:r<s
 .exact To (d:=s-r-1) (r:=r) (by omega) fun j hj=>by rw[show r+1+(s-r-1)=s by omega];exact he j hj
 exact To (d:=r-s-1) (r:=s) (by omega) fun j hj=>by rw[show s+1+(r-s-1)=r by omega];exact(he j hj).symm
theorem NP{n r s:Nat}(c:Rat)(M:Mx)(hr:r<n)(hs:s<n)(d:r≠s):det n (AF r (fun j=>M r j+c*M s j) M)=det n M:=by
 have h:=Gq (M r) (M s) 1 c M hr;rw[Eh,OU (M:=AF r (M s) M) hr hs d fun j _=>by unfold AF;rw[zF rfl,zE (fun e=>d e.symm)]]at h;have e:(fun j=>M r j+c*M s j)=fun j=>1*M r j+c*M s j:=by funext j;rw[wL]
 rw[e,h];grind
theorem I3{n r:Nat}(c:Rat)(M:Mx)(hr:r<n):det n (AF r (fun j=>c*M r j) M)=c*det n M:=by
 have h:=Gq (M r) (M r) c 0 M hr;rw[Eh]at h;have e:(fun j=>c*M r j)=fun j=>c*M r j+0*M r j:=by funext j;grind
 rw[e,h];grind
theorem Tp:∀(n:Nat){M:Mx},(∀i j,i<n->j<n->M i j=if i=j then 1 else 0)->det n M=1:=by
 intro n
 induction n with
 |zero=>intros;rfl
 |succ n ih=>
  intro M h;unfold det;rw[Ck (k:=0) _ (by omega) fun i hi d=>by rw[h i 0 hi (by omega),zE d];grind];rw[h 0 0 (by omega) (by omega),zF rfl,ih]
  .show (1:Rat)*1*1=1
   grind
  intro i j hi hj
  show M (i+1) (j+1)=_
  rw[h _ _ (by omega) (by omega)]
  by_cases e:i=j
  .rw[zF e,zF (by omega)]
  rw[zE e,zE (by omega)]
theorem VA{n r:Nat}(M:Mx)(hr:r<n)(y:Nat->Rat)(R:Nat->Nat->Rat):∀m,det n (AF r (fun j=>At m fun l=>y l*R l j) M)=At m fun l=>y l*det n (AF r (R l) M):=by
 intro m
 induction m with
 |zero=>
  have h:=I3 0 (AF r (fun _=>0) M) hr;rw[Qr]at h;have e:(fun j=>0*AF r (fun _=>0) M r j)=(fun _=>0):=by funext j;grind
  rw[e]at h
  show det n (AF r (fun _=>0) M)=0
  rw[h];grind
 |succ m ih=>
  show det n (AF r (fun j=>(At m fun l=>y l*R l j)+y m*R m j) M)=_
  have e:(fun j=>(At m fun l=>y l*R l j)+y m*R m j)=fun j=>1*(At m fun l=>y l*R l j)+y m*R m j:=by funext j;grind
  rw[e,Gq _ _ _ _ _ hr,ih]
  show _=(At m fun l=>y l*det n (AF r (R l) M))+y m*det n (AF r (R m) M)
  grind
theorem Xd{n i:Nat}(M:Mx)(y c:Nat->Rat)(hi:i<n)(h:∀j,j<n->At n (fun l=>y l*M l j)=c j):y i*det n M=det n (AF i c M):=by
 have h1:det n (AF i c M)=det n (AF i (fun j=>At n fun l=>y l*M l j) M):=by
  apply Eg;intro r j _ hj;unfold AF
  split
  .exact(h j hj).symm
  rfl
 rw[h1,VA M hi,Ck (k:=i) _ hi fun l hl d=>?_,Eh];rw[OU (M:=AF i (M l) M) hi hl (fun e=>d e.symm) fun j _=>by unfold AF;rw[zF rfl,zE d]];grind
def Bn:Nat->(Nat->Rat)->Rat
 |0,_=>1
 |n+1,f=>Bn n f*f n
theorem Ho:∀{n i:Nat} (f:Nat->Rat),i<n+1->Bn (n+1) f=f i*Bn n fun r=>f (skip i r):=by
 intro n
 induction n with
 |zero => intro i f h;have:i=0:=by omega
          subst this;simp only[Bn];grind
 |succ n ih=>
  intro i f h
  by_cases e:i=n+1
  .subst e
   show Bn (n+1) f*f (n+1)=_
   have:Bn (n+1) (fun r=>f (skip (n+1) r))=Bn (n+1) f:=by
    have:∀m,m<=n+1->Bn m (fun r=>f (skip (n+1) r))=Bn m f:=by
     intro m
     induction m with
     |zero=>intro _;rfl
     |succ m ihm=>intro hm;unfold Bn;rw[ihm (by omega)];congr 1;show f (if m<n+1 then m else m+1)=f m;rw[zF (by omega)]
    exact this _ (zB _)
   rw[this];grind
  show Bn (n+1) f*f (n+1)=_
  rw[ih f (by omega:i<n+1)]
  show _=f i*(Bn n (fun r=>f (skip i r))*f (skip i n))
  rw[show skip i n=n+1 by unfold skip;rw[zE (by omega)]];grind
theorem KJ:∀{n:Nat} {s:Nat->Rat} {M:Mx},(∀i j,i<n->j<n->IsI (s i*M i j))->IsI (Bn n s*det n M):=by
 intro n
 induction n with
 |zero=>intro s M _;show IsI (1*1);rw[wL];exact IsI.one
 |succ n ih=>
  intro s M h;unfold det;rw[<-AW];apply IsI.sum;intro i hi;rw[Ho s hi];have h1:=ih (s:=fun r=>s (skip i r)) (M:=fun r c=>M (skip i r) (c+1)) fun a b ha hb=>h _ _ (by unfold skip;split<;>omega) (by omega);have h2:=((V9 i).mul (h i 0 hi (by omega))).mul h1;have e:s i*Bn n (fun r=>s (skip i r))*(sgn i*M i 0*det n fun r c=>M (skip i r) (c+1))=sgn i*(s i*M i 0)*(Bn n (fun r=>s (skip i r))*det n fun r c=>M (skip i r) (c+1)):=by grind
  rw[e];exact h2
theorem I4{n:Nat}{f g:Nat->Rat}(h:∀i,i<n->f i<=g i):At n f<=At n g:=by
 induction n with
 |zero=>exact xT
 |succ n ih=>
  unfold At;have h1:=ih fun i hi=>h i (by omega);have h2:=h n (by omega);grind
theorem ES{n k:Nat}(f:Nat->Rat)(hk:k<n):At n f=f k+At n fun j=>if j=k then 0 else f j:=by
 induction n with
 |zero=>omega
 |succ n ih=>
  show At n f+f n=f k+((At n fun j=>if j=k then 0 else f j)+(if n=k then 0 else f n))
  by_cases e:k=n
  .subst e;rw[zF rfl,Az (g:=f) (f:=fun j=>if j=k then 0 else f j) fun i hi=>zE (by omega)];grind
  rw[zE (by omega),ih (by omega)];grind
theorem I5{a b:Rat}(h1:a<=0)(h2:0<=b):a*b<=0:=by
 have:=xm (a:=-a) (b:=b) (by grind) h2;grind
def Cr(k:Nat)(M:Mx):Mx:=fun i j=>if i=k then M k j*(M k k)⁻¹ else M i j-M i k*(M k j*(M k k)⁻¹)
structure Shs(n:Nat)(M:Mx)(v:Nat->Rat):Prop where
 le1:∀i,i<n->M i i<=1
 off:∀i j,i<n->j<n->j≠i->M i j<=0
 rhs:∀i,i<n->0<=M i n
 slack:∀i,i<n->M i n<=At n (M i)
 pos:∀i,i<n->0<At n fun j=>M i j*v j
 vnn:∀j,j<n->0<=v j
theorem Shs.piv{n k:Nat}{M:Mx}{v:Nat->Rat}(h:Shs n M v)(hk:k<n):0<M k k:=by
 have h1:=h.pos k hk;rw[ES _ hk]at h1
 have h2:(At n fun j=>if j=k then 0 else M k j*v j)<=0:=by
  have:=I4 (n:=n) (f:=fun j=>if j=k then 0 else M k j*v j) (g:=fun _=>0) fun j hj=>by
   split
   .exact xT
   next e=>exact I5 (h.off k j hk hj e) (h.vnn j hj)
  rw[CD fun _ _=>rfl]at this;exact this
 by_cases c:0<M k k
 .exact c
 have:=I5 (Rat.not_lt.1 c) (h.vnn k hk);grind
theorem inv_pos{p:Rat}(h:0<p):0<p⁻¹:=Rat.inv_pos.2 h
theorem Shs.step{n k:Nat}{M:Mx}{v:Nat->Rat}(h:Shs n M v)(hk:k<n):Shs n (Cr k M) v:=by
 have hp:=h.piv hk;have hq:=inv_pos hp;have aa:M k k*(M k k)⁻¹=1:=xf _ (by grind);have rowk:∀j,Cr k M k j=(M k k)⁻¹*M k j:=fun j=>by unfold Cr;rw[zF rfl];grind
 have rowi:∀i j,i≠k->Cr k M i j=M i j+(- M i k*(M k k)⁻¹)*M k j:=fun i j e=>by unfold Cr;rw[zE e];grind
 have hf:∀i,i<n->i≠k->0 <=-M i k*(M k k)⁻¹:=fun i hi e=>xm (by have:=h.off i k hi hk (fun a=>e a.symm);grind) (xL hq);refine⟨fun i hi=>?_,fun i j hi hj d=>?_,fun i hi=>?_,fun i hi=>?_,fun i hi=>?_,h.vnn⟩
 .by_cases e:i=k
  .subst e;rw[rowk,ve,aa];exact xT
  rw[rowi i i e];have h1:=h.le1 i hi;have h2:=I5 (h.off k i hk hi e) (hf i hi e);grind
 .by_cases e:i=k
  .subst e;rw[rowk];have:=I5 (h.off i j hi hj d) (xL hq);grind
  rw[rowi i j e]
  by_cases e2:j=k
  .subst e2;have e3:M i j+-M i j*(M j j)⁻¹*M j j=M i j-M i j*(M j j*(M j j)⁻¹):=by grind
   rw[e3,aa];grind
  have h1:=h.off i j hi hj d;have h2:=I5 (h.off k j hk hj e2) (hf i hi e);grind
 .by_cases e:i=k
  .subst e;rw[rowk];exact xm (xL hq) (h.rhs i hi)
  rw[rowi i n e];have h1:=h.rhs i hi;have h2:=xm (hf i hi e) (h.rhs k hk);grind
 .by_cases e:i=k
  .subst e;rw[rowk,Az fun j _=>rowk j,AW];exact yO (h.slack i hi) (xL hq)
  rw[rowi i n e,Az fun j _=>rowi i j e,CE,AW];have h1:=h.slack i hi;have h2:=yO (h.slack k hk) (hf i hi e);have h3:At n (M i)=At n fun j=>M i j:=rfl;have h4:At n (M k)=At n fun j=>M k j:=rfl;rw[h3]at h1;rw[h4]at h2;grind
 by_cases e:i=k
 .subst e;rw[Az (g:=fun j=>(M i i)⁻¹*(M i j*v j)) fun j _=>by rw[rowk];grind,AW];exact vZ hq (h.pos i hi)
 rw[Az (g:=fun j=>M i j*v j+(- M i k*(M k k)⁻¹)*(M k j*v j)) fun j _=>by rw[rowi i j e];grind,CE,AW];have h1:=h.pos i hi;have h2:=xm (hf i hi e) (xL (h.pos k hk));grind
theorem Shs.diag{n i:Nat}{M:Mx}{v:Nat->Rat}(h:Shs n M v)(hi:i<n):0<=M i i/\M i n<=M i i/\∀j,j<n->- M i i<=M i j:=by
 have h1:=h.slack i hi;have h2:=h.rhs i hi;rw[ES _ hi]at h1
 have h3:(At n fun j=>if j=i then 0 else M i j)<=0:=by
  have:=I4 (n:=n) (f:=fun j=>if j=i then 0 else M i j) (g:=fun _=>0) fun j hj=>by
   split
   .exact xT
   next e=>exact h.off i j hi hj e
  rw[CD fun _ _=>rfl]at this;exact this
 refine⟨by grind,by grind,fun j hj=>?_⟩
 by_cases e:j=i
 .subst e;grind
 rw[ES _ hj,zE e]at h1
 have h4:(At n fun t=>if t=j then 0 else if t=i then 0 else M i t)<=0:=by
  have:=I4 (n:=n) (f:=fun t=>if t=j then 0 else if t=i then 0 else M i t) (g:=fun _=>0) fun t ht=>by
   split
   .exact xT
   split
   .exact xT
   next e=>exact h.off i t hi ht e
  rw[CD fun _ _=>rfl]at this;exact this
 grind
theorem Shs.abs{n i j:Nat}{M:Mx}{v:Nat->Rat}(h:Shs n M v)(hi:i<n)(hj:j<=n):-1<=M i j/\M i j<=1:=by
 obtain⟨h1,h2,h3⟩:=h.diag hi;have h4:=h.le1 i hi
 by_cases e:j=n
 .subst e;have:=h.rhs i hi;grind
 have h5:=h3 j (by omega)
 by_cases e2:j=i
 .subst e2;grind
 have:=h.off i j hi (by omega) e2;grind
structure Mad(n k:Nat)(A M:Mx):Prop where
 unit:Unit n k M
 comb:∀i,i<n->∃y:Nat->Rat,(∀l,k<=l->y l=0)/\∀j,j<=n->M i j=(if i<k then 0 else A i j)+At k fun l=>y l*A l j
 dets:∃P:Rat,0<P/\P<=1/\∀K,k<=K->K<=n->det K A=P*det K M
theorem Mad.start(n:Nat)(A:Mx):Mad n 0 A A:=by
 refine⟨fun i j _ h=>absurd h (by omega),fun i _=>⟨fun _=>0,fun _ _=>rfl,fun j _=>?_⟩,1,by decide,by decide,fun K _ _=>(wL _).symm⟩;rw[zE (by omega)];exact(ww _).symm
def Hp(k m:Nat)(M:Mx):Mx:=fun i j=>if i=k then M k j*(M k k)⁻¹ else if i<m then M i j-M i k*(M k j*(M k k)⁻¹) else M i j
theorem Qs{n k K:Nat}{M:Mx}(hk:k<K)(_:K<=n):∀m,det K (Hp k m M)=(M k k)⁻¹*det K M:=by
 intro m
 induction m with
 |zero=>
  rw[<-I3 _ M hk]
  congr 1
  funext i j
  unfold Hp AF
  by_cases e:i=k
  .rw[zF e,zF e,ve]
  rw[zE e,zE (by omega),zE e]
 |succ m ih=>
  rw[<-ih]
  by_cases e:m=k
  .congr 1
   funext i j
   unfold Hp
   by_cases e2:i=k
   .rw[zF e2,zF e2]
   rw[zE e2,zE e2]
   by_cases c:i<m
   .rw[zF (by omega),zF c]
   rw[zE (by omega),zE c]
  by_cases c:m<K
  .rw [<-NP (r:=m) (s:=k) (- M m k) (Hp k m M) c hk e]
   congr 1
   funext i j
   unfold AF
   by_cases e2:i=m
   .subst e2;unfold Hp;simp only[zE e,zE (wB _),zF (zw _)];simp only[vG];grind
   rw[zE e2];unfold Hp
   by_cases e3:i=k
   .rw[zF e3,zF e3]
   rw[zE e3,zE e3]
   by_cases c2:i<m
   .rw[zF (by omega),zF c2]
   rw[zE (by omega),zE c2]
  apply Eg;intro i j hi hj;unfold Hp
  by_cases e3:i=k
  .rw[zF e3,zF e3]
  rw[zE e3,zE e3,zF (by omega),zF (by omega)]
theorem Qt{n k K:Nat}{M:Mx}(hk:k<K)(hK:K<=n):det K (Cr k M)=(M k k)⁻¹*det K M:=by
 rw[<-Qs (n:=n) hk hK K];apply Eg;intro i j hi _;unfold Hp Cr
 by_cases e:i=k
 .rw[zF e,zF e]
 rw[zE e,zE e,zF hi]
theorem Mad.step{n k:Nat}{A M:Mx}{v:Nat->Rat}(h:Mad n k A M)(hs:Shs n M v)(hk:k<n):Mad n (k+1) A (Cr k M):=by
 have hp:=hs.piv hk;have d:M k k*(M k k)⁻¹=1:=xf _ (by grind);have hz:=h.unit.zeros hk (zB _);refine⟨fun i j hi hj=>?_,fun i hi=>?_,?_⟩
 .unfold Cr
  by_cases e:j=k
  .subst e
   by_cases e2:i=j
   .rw[zF e2,zF e2,d]
   rw[zE e2,zE e2,d];grind
  rw[hz j (by omega)]
  by_cases e2:i=k
  .rw[zF e2,zE (by omega)];grind
  rw[zE e2,h.unit i j hi (by omega)];grind
 .obtain ⟨yk,k1,k2⟩:=h.comb k hk;have k2:∀j,j<=n->M k j=A k j+At k fun l=>yk l*A l j:=fun j hj=>by have:=k2 j hj;rwa [zE (wB _)]at this
  by_cases e:i=k
  .subst e;refine⟨fun l=>if l=i then (M i i)⁻¹ else (M i i)⁻¹*yk l,fun l hl=>?_,fun j hj=>?_⟩
   .dsimp only;rw[zE (by omega),k1 l (by omega)];grind
   rw[zF (by omega)];unfold Cr;rw[zF rfl]
   show _=0+((At i fun l=>(if l=i then (M i i)⁻¹ else (M i i)⁻¹*yk l)*A l j)+(if i=i then (M i i)⁻¹ else (M i i)⁻¹*yk i)*A i j)
   rw[zF rfl,Az (g:=fun l=>(M i i)⁻¹*(yk l*A l j)) fun l hl=>by rw[zE (by omega)];grind,AW];have:=k2 j hj;grind
  obtain⟨y,h1,h2⟩:=h.comb i hi;refine⟨fun l=>if l=k then-M i k*(M k k)⁻¹ else y l+(- M i k*(M k k)⁻¹)*yk l,fun l hl=>?_,fun j hj=>?_⟩
  .dsimp only;rw[zE (by omega),k1 l (by omega),h1 l (by omega)];grind
  have e1:(if i<k+1 then 0 else A i j)=(if i<k then 0 else A i j):=by
   by_cases c:i<k
   .rw[zF c,zF (by omega)]
   rw[zE c,zE (by omega)]
  rw[e1];unfold Cr;rw[zE e]
  show _=_+((At k fun l=>(if l=k then-M i k*(M k k)⁻¹ else y l+(- M i k*(M k k)⁻¹)*yk l)*A l j)+(if k=k then-M i k*(M k k)⁻¹ else y k+(- M i k*(M k k)⁻¹)*yk k)*A k j)
  rw[zF rfl,Az (g:=fun l=>y l*A l j+(- M i k*(M k k)⁻¹)*(yk l*A l j)) fun l hl=>by rw[zE (by omega)];grind,CE,AW];have a:=k2 j hj;have b:=h2 j hj;grind
 obtain⟨P,p1,p2,p3⟩:=h.dets;refine⟨P*M k k,vZ p1 hp,?_,fun K h1 h2=>?_⟩
 .have h1:=hs.le1 k hk;have h2:=yO h1 (xL p1);grind
 rw[p3 K (by omega) h2,Qt (n:=n) (by omega) h2,Rat.mul_assoc,<-Rat.mul_assoc (M k k),d,wL]
theorem Mad.det_k{n k:Nat}{A M:Mx}(h:Mad n k A M)(hk:k<=n):0<det k A/\det k A<=1:=by
 obtain⟨P,p1,p2,p3⟩:=h.dets;have:=p3 k (zB _) hk;rw[Tp k fun i j hi hj=>h.unit i j (by omega) hj,Rat.mul_one]at this;rw[this];exact⟨p1,p2⟩
theorem E1(c:Rat)(n:Nat):Bn n (fun _=>c)=c^n:=by
 induction n with
 |zero=>exact(Rat.pow_zero c).symm
 |succ n ih=>rw[Bn,ih,qE]
theorem KK{n:Nat}{f g:Nat->Rat}(h:∀i,i<n->f i=g i):Bn n f=Bn n g:=by
 induction n with
 |zero=>rfl
 |succ n ih=>rw[Bn,Bn,ih fun i hi=>h i (by omega),h n (by omega)]
theorem LS{n k l:Nat}{A:Mx}{c:Rat}(hA:∀i j,i<n->j<n->IsI (c*A i j))(hk:k<=n)(y r:Nat->Rat)(t:Rat)(hl:l<k)(ht:∀j,j<k->IsI (t*r j))(h:∀j,j<k->(At k fun l=>y l*A l j)=r j):
 IsI (y l*(c^(k-1)*t*det k A)):=by
 have h1:=Xd A y r hl h
 have h2:=KJ (n:=k) (s:=fun i=>if i=l then t else c) (M:=AF l r A) fun i j hi hj=>by
  unfold AF
  by_cases e:i=l
  .rw[zF e,zF e];exact ht j hj
  rw[zE e,zE e];exact hA i j (by omega) (by omega)
 have h3:Bn k (fun i=>if i=l then t else c)=c^(k-1)*t:=by
  obtain⟨m,rfl⟩:∃m,k=m+1:=⟨k-1,by omega⟩;rw[Ho _ hl,zF rfl,KK (g:=fun _=>c) fun i hi=>zE (by unfold skip;split<;>omega),E1,vB,ve]
 rw[h3,<-h1]at h2;have e:c^(k-1)*t*(y l*det k A)=y l*(c^(k-1)*t*det k A):=by grind
 rwa [e]at h2
theorem LTq(c:Rat){k:Nat}(h:0<k):c^(k-1)*c=c^k:=by
 obtain⟨m,rfl⟩:∃m,k=m+1:=⟨k-1,by omega⟩;rw[vB,qE]
theorem Mad.int_top{n k i j:Nat}{A M:Mx}{c D:Rat}(h:Mad n k A M)(hk:k<=n)(hA:∀i j,i<n->j<n->IsI (c*A i j))(hb:∀i,i<n->IsI (c*D*A i n))(hD:IsI D)(hi:i<k)(hj:j<=n):IsI (c^k*det k A*D*M i j):=by
 obtain⟨y,h1,h2⟩:=h.comb i (by omega)
 have h3:∀l,l<k->IsI (y l*(c^(k-1)*1*det k A)):=fun l hl=>LS hA hk y (fun j=>if i=j then 1 else 0) 1 hl (fun j _=>by split;(· rw[wL];exact IsI.one);(· rw[wL];exact IsI.zero)) fun j hj=>by
  have:=h2 j (by omega);rw[h.unit i j (by omega) hj,zF hi,Rat.zero_add]at this;exact this.symm
 rw[h2 j hj,zF hi,Rat.zero_add,<-AW];apply IsI.sum;intro l hl;have h4:=h3 l hl
 have h5:IsI (c*D*A l j):=by
  by_cases e:j=n
  .rw[e];exact hb l (by omega)
  have:=(hA l j (by omega) (by omega)).mul hD;have e2:c*A l j*D=c*D*A l j:=by grind
  rwa [e2]at this
 have h6:=h4.mul h5;have e:y l*(c^(k-1)*1*det k A)*(c*D*A l j)=c^(k-1)*c*det k A*D*(y l*A l j):=by grind
 rw[e,LTq c (by omega)]at h6;exact h6
theorem Mad.int_all{n k i j:Nat}{A M:Mx}{c D:Rat}(h:Mad n k A M)(hk:k<=n)(hc:IsI c)(hA:∀i j,i<n->j<n->IsI (c*A i j))(hb:∀i,i<n->IsI (c*D*A i n))(hD:IsI D)(hi:i<n)(hj:j<=n):IsI (c^k*det k A*(c*D)*M i j):=by
 by_cases hik:i<k
 .have h1:=(h.int_top hk hA hb hD hik hj).mul hc;have e:c^k*det k A*D*M i j*c=c^k*det k A*(c*D)*M i j:=by grind
  rwa [e]at h1
 obtain⟨y,h1,h2⟩:=h.comb i hi
 have h3:∀l,l<k->IsI (y l*(c^(k-1)*c*det k A)):=fun l hl=>LS hA hk y (fun j=>- A i j) c hl (fun j hj=>by
  have:=(hA i j hi (by omega)).neg;have e:-(c*A i j)=c*(- A i j):=by grind
  rwa [e]at this) fun j hj=>by
  have:=h2 j (by omega);rw[h.unit i j hi hj,zE (by omega),zE hik]at this;grind
 have h5:∀l,l<n->IsI (c*D*A l j):=fun l hl=>by
  by_cases e:j=n
  .rw[e];exact hb l hl
  have:=(hA l j hl (by omega)).mul hD;have e2:c*A l j*D=c*D*A l j:=by grind
  rwa [e2]at this
 have d:IsI (c^k*det k A):=by
  have:=KJ (n:=k) (s:=fun _=>c) (M:=A) fun i j hi hj=>hA i j (by omega) (by omega)
  rwa [E1]at this
 rw[h2 j hj,zE hik];have e:c^k*det k A*(c*D)*(A i j+At k fun l=>y l*A l j)=c^k*det k A*(c*D*A i j)+(c^k*det k A*(c*D))*At k fun l=>y l*A l j:=by grind
 rw[e,<-AW];refine(d.mul (h5 i hi)).add (IsI.sum fun l hl=>?_);have h6:=(h3 l hl).mul (h5 l (by omega));have e:y l*(c^(k-1)*c*det k A)*(c*D*A l j)=c^(k-1)*c*det k A*(c*D)*(y l*A l j):=by grind
 rwa [e,LTq c (by omega)]at h6
theorem LU{S:Rat->Bool}{n k:Nat}{M:Mx}:∀{m:Nat},m<=n ->
 (∀i,i<m->i≠k->∀j,k<=j->j<=n->S (M i k)=true/\S (M k j)=true/\S (M i j)=true/\S (M i k*M k j)=true) ->
 AK S n k m M=some fun i j=>if i<m/\i≠k/\k<=j then M i j-M i k*M k j else M i j:=by
 intro m
 induction m with
 |zero=>
  intro _ _;unfold AK
  congr 1
 |succ m ih=>
  intro hm hS;unfold AK;rw[ih (by omega) fun i hi=>hS i (by omega)];rw[Option.bind_some];unfold BJ;have e1:∀j,(if m<m/\m≠k/\k<=j then M m j-M m k*M k j else M m j)=M m j:=fun j=>zE fun h=>absurd h.1 (wB _);have e2:∀j,(if k<m/\k≠k/\k<=j then M k j-M k k*M k j else M k j)=M k j:=fun j=>zE fun h=>h.2.1 rfl
  by_cases c:m=k\/M m k=0
  .rw [zF (by dsimp only;rw[e1];exact c)]
   congr 1
   funext i j
   by_cases e:i=m
   .subst e;rw[e1]
    by_cases d:i≠k/\k<=j
    .rw[zF ⟨by omega,d⟩]
     rcases c with c|c
     .exact absurd c d.1
     rw[c];grind
    rw[zE fun h=>d h.2]
   by_cases d:i<m/\i≠k/\k<=j
   .rw[zF d,zF ⟨by omega,d.2⟩]
   rw[zE d,zE fun h=>d ⟨by omega,h.2⟩]
  have aa:m≠k:=fun e=>c (.inl e);rw[zE (by dsimp only;rw[e1];exact c),zF]
  .congr 1
   funext i j
   unfold Dw;dsimp only
   by_cases e:i=m
   .subst e;rw[e1,e1,e2]
    by_cases d:k<=j
    .rw[zF ⟨rfl,d⟩,zF ⟨by omega,aa,d⟩]
    rw[zE fun h=>d h.2,zE fun h=>d h.2.2]
   rw[zE fun h=>e h.1]
   by_cases d:i<m/\i≠k/\k<=j
   .rw[zF d,zF ⟨by omega,d.2⟩]
   rw[zE d,zE fun h=>d ⟨by omega,h.2⟩]
  rw[Fo];intro j h1 h2;rw[e1,e1,e2];exact hS m (by omega) aa j h1 h2
theorem NQ{n k:Nat}{M:Mx}(hk:k<n)(h:M k k≠0):CX n k M (n-k)=some k :=
 Iy (by omega) (by omega) hk h fun i a b=>by omega
theorem Qu(k:Nat)(M:Mx):Bt k k M=M:=by
 funext i
 unfold Bt
 split
 .next h=>rw[h]
 rfl
theorem LO{S:Rat->Bool}{n k:Nat}{M:Mx}(hk:k<n)(hu:Unit n k M)(h0:M k k≠0)
 (h1:∀i j,i<n->j<=n->S (M i j)=true)(h2:∀j,j<=n->S (Cr k M k j)=true)(h3:∀i j,i<n->j<=n->S (M i k*Cr k M k j)=true):∃M',CY S n k M=.ok M'/\∀i j,i<n->M' i j=Cr k M i j:=by
 have ae:M k k*(M k k)⁻¹=1:=xf _ h0;have hz:=hu.zeros hk (zB _)
 have aa:∀j,Bj k M k j=Cr k M k j:=fun j=>by
  unfold Bj Cr;rw[zF rfl]
  by_cases c:k<=j
  .rw[zF ⟨rfl,c⟩,wT]
  rw[zE fun h=>c h.2,hz j (by omega)];grind
 have d:∀i j,i≠k->Bj k M i j=M i j:=fun i j e=>by unfold Bj;rw[zE fun h=>e h.1]
 have he:=LU (S:=S) (n:=n) (k:=k) (M:=Bj k M) (zB n) fun i hi ad j _ hj=>by
  rw[d i k ad,aa,d i j ad];exact⟨h1 i k hi (by omega),h2 j hj,h1 i j hi hj,h3 i j hi hj⟩
 refine⟨fun i j=>if i<n/\i≠k/\k<=j then Bj k M i j-Bj k M i k*Bj k M k j else Bj k M i j,?_,?_⟩
 .unfold CY;rw[NQ hk h0];dsimp only;rw[Qu,zF,he];rw[Fnq];intro j _ hj;exact⟨h1 k j hk hj,h1 k k hk (by omega)⟩
 intro i j hi
 by_cases e:i=k
 .subst e;dsimp only;rw[zE fun h=>h.2.1 rfl,aa]
 unfold Cr;dsimp only;rw[zE e]
 by_cases c:k<=j
 .rw[zF ⟨hi,e,c⟩,d i j e,d i k e,aa];unfold Cr;rw[zF rfl]
 rw[zE fun h=>c h.2.2,d i j e,hz j (by omega)];grind
def Fit(B:Nat)(x:Rat):Prop:=-1<=x/\x<=1/\∃d:Nat,0<d/\d<=B/\IsI ((d:Rat)*x)
theorem Shs.congr{n:Nat}{M M':Mx}{v:Nat->Rat}(h:Shs n M v)(e:∀i j,i<n->M' i j=M i j):Shs n M' v:=by
 refine⟨fun i hi=>by rw[e i i hi];exact h.le1 i hi,fun i j hi hj hn=>by rw[e i j hi];exact h.off i j hi hj hn,fun i hi=>by rw[e i n hi];exact h.rhs i hi,fun i hi=>?_,fun i hi=>?_,h.vnn⟩
 .rw[e i n hi,Az (f:=M' i) (g:=M i) fun j _=>e i j hi];exact h.slack i hi
 rw[Az (g:=fun j=>M i j*v j) fun j _=>by rw[e i j hi]];exact h.pos i hi
theorem Mad.congr{n k:Nat}{A M M':Mx}(h:Mad n k A M)(e:∀i j,i<n->M' i j=M i j):Mad n k A M':=by
 refine⟨fun i j hi hj=>by rw[e i j hi];exact h.unit i j hi hj,fun i hi=>?_,?_⟩
 .obtain⟨y,h1,h2⟩:=h.comb i hi;exact⟨y,h1,fun j hj=>by rw[e i j hi];exact h2 j hj⟩
 obtain⟨P,h1,h2,h3⟩:=h.dets;exact⟨P,h1,h2,fun K a b=>by rw[h3 K a b,Eg fun i j hi _=>(e i j (by omega)).symm]⟩
theorem IsI.nat(n:Nat):IsI (n:Rat):=⟨n,(wh n).symm⟩
theorem IsI.toNat{x:Rat}(h:IsI x)(h0:0<x):∃d:Nat,x=(d:Rat)/\0<d:=by
 obtain⟨z,rfl⟩:=h
 have h1:0<z:=by
  have:((0:Int):Rat)<(z:Rat):=h0;exact Rat.intCast_lt_intCast.1 this
 refine⟨z.toNat,?_,by omega⟩;have:((z.toNat:Nat):Int)=z:=by omega
 rw[<-wh,this]
theorem NR{a b:Nat}(h:(a:Rat)<=(b:Rat)):a<=b:=Rat.natCast_le_natCast.1 h
theorem Hq{c:Rat}(h:0<c)(n:Nat):0<c^n:=by
 induction n with
 |zero=>rw[Rat.pow_zero];decide
 |succ n ih=>rw[qE];exact vZ ih h
structure Sys(n c D:Nat)(A:Mx)(v:Nat->Rat):Prop where
 shs:Shs n A v
 cp:0<c
 dp:0<D
 lhs:∀i j,i<n->j<n->IsI ((c:Rat)*A i j)
 rgt:∀i,i<n->IsI ((c:Rat)*(D:Rat)*A i n)
theorem Sys.det_nat{n c D k:Nat}{A M:Mx}{v:Nat->Rat}(h:Sys n c D A v)(hm:Mad n k A M)(hk:k<=n):∃d:Nat,0<d/\d<=c^k/\(c:Rat)^k*det k A=(d:Rat):=by
 obtain⟨d1,d2⟩:=hm.det_k hk;have hc:0<(c:Rat):=by have:=h.cp;exact Rat.natCast_pos.2 this
 have hI:IsI ((c:Rat)^k*det k A):=by
  have:=KJ (n:=k) (s:=fun _=>(c:Rat)) (M:=A) fun i j hi hj=>h.lhs i j (by omega) (by omega)
  rwa [E1]at this
 obtain⟨d,e1,e2⟩:=hI.toNat (vZ (Hq hc k) d1);refine⟨d,e2,NR ?_,e1⟩;rw[<-e1,Rat.natCast_pow];have:=yO d2 (xL (Hq hc k));grind
theorem Sys.fit{n c D k i j:Nat}{A M:Mx}{v:Nat->Rat}(h:Sys n c D A v)(hm:Mad n k A M)(hs:Shs n M v)(hk:k<=n)(hi:i<n)(hj:j<=n):Fit (c^(n+1)*D) (M i j):=by
 obtain⟨a1,a2⟩:=hs.abs hi hj;obtain⟨d,d1,d2,d3⟩:=h.det_nat hm hk;refine⟨a1,a2,d*(c*D),wM d1 (wM h.cp h.dp),?_,?_⟩
 .have h1:d<=c^n:=zQ d2 (zj h.cp hk);rw[yy,yw];exact xB _ h1
 have:=hm.int_all hk (IsI.nat c) h.lhs h.rgt (IsI.nat D) hi hj;rw[d3]at this
 simpa [xh] using this
theorem Sys.solve{S:Rat->Bool}{n c D:Nat}{A:Mx}{v:Nat->Rat}(h:Sys n c D A v)(hS:∀x,Fit ((c^(n+1)*D)*(c^(n+1)*D)) x->S x=true):
 ∀k,k<=n->∃M,AB S n k A=.ok M/\Shs n M v/\Mad n k A M:=by
 have hB:0<c^(n+1)*D:=wM (wC h.cp) h.dp
 have aa:∀x,Fit (c^(n+1)*D) x->S x=true:=fun x hx=>by
  obtain⟨a1,a2,d,d1,d2,d3⟩:=hx;refine hS x ⟨a1,a2,d,d1,zQ d2 ?_,d3⟩;exact vv _ hB
 have ae:∀x y,Fit (c^(n+1)*D) x->Fit (c^(n+1)*D) y->S (x*y)=true:=fun x y hx hy=>by
  obtain⟨a1,a2,d,d1,d2,d3⟩:=hx;obtain⟨b1,b2,e,e1,e2,e3⟩:=hy
  have ad:x*y<=1/\-1<=x*y:=by
   have p1:=xm (a:=1-x) (b:=1-y) (by grind) (by grind);have p2:=xm (a:=1+x) (b:=1+y) (by grind) (by grind);have p3:=xm (a:=1-x) (b:=1+y) (by grind) (by grind);have p4:=xm (a:=1+x) (b:=1-y) (by grind) (by grind);constructor
   .grind
   grind
  refine hS _ ⟨ad.2,ad.1,d*e,wM d1 e1,wl d2 e2,?_⟩;have:=d3.mul e3;have e:(d:Rat)*x*((e:Rat)*y)=((d*e:Nat):Rat)*(x*y):=by rw[xh];grind
  rwa [e]at this
 intro k
 induction k with
 |zero=>intro _;exact⟨A,rfl,h.shs,Mad.start n A⟩
 |succ k ih=>
  intro hk;obtain⟨M,m1,m2,m3⟩:=ih (by omega);have hp:=m2.piv (show k<n by omega);have s1:=m2.step (show k<n by omega);have s2:=m3.step m2 (show k<n by omega);have f1:∀i j,i<n->j<=n->Fit (c^(n+1)*D) (M i j):=fun i j hi hj=>h.fit m3 m2 (by omega) hi hj;have f2:∀i j,i<n->j<=n->Fit (c^(n+1)*D) (Cr k M i j):=fun i j hi hj=>h.fit s2 s1 hk hi hj;obtain⟨M',e1,e2⟩:=LO (S:=S) (show k<n by omega) m3.unit (by grind) (fun i j hi hj=>aa _ (f1 i j hi hj)) (fun j hj=>aa _ (f2 k j (by omega) hj)) fun i j hi hj=>ae _ _ (f1 i k hi (by omega)) (f2 k j (by omega) hj);refine⟨M',?_,s1.congr fun i j hi=>e2 i j hi,s2.congr fun i j hi=>e2 i j hi⟩;unfold AB;rw[m1];exact e1
theorem Sys.result{S:Rat->Bool}{n c D:Nat}{A:Mx}{v:Nat->Rat}(h:Sys n c D A v)(hS:∀x,Fit ((c^(n+1)*D)*(c^(n+1)*D)) x->S x=true):
 ∃M,AB S n n A=.ok M/\(∀y,Sol n A y (fun i=>A i n)<->∀i,i<n->y i=M i n)/\(∀i,i<n->0<=M i n/\M i n<=1)/\∃d:Nat,0<d/\d<=c^n/\∀i,i<n->IsI ((d*D:Nat)*M i n):=by
 obtain⟨M,m1,m2,m3⟩:=h.solve hS n (zB n);obtain⟨d,d1,d2,d3⟩:=h.det_nat m3 (zB n);refine⟨M,m1,(Xb m1).1,fun i hi=>⟨m2.rhs i hi,(m2.abs hi (zB n)).2⟩,d,d1,d2,fun i hi=>?_⟩;have:=m3.int_top (zB n) h.lhs h.rgt (IsI.nat D) hi (zB n);rw[d3]at this;rw[xh];exact this
end Sh
end
section
namespace Sh
open Nt Ci
abbrev Lp:=Nat×Nat×Rat
def Ao(p:Nat)(f:Nat->Rat):List Lp->Rat
 | []=>0
 |x::l=>(if x.1=p then x.2.2*f x.2.1 else 0)+Ao p f l
theorem E2{p:Nat}{f g:Nat->Rat}{L:List Lp}(h:∀x,x∈L->x.1=p->f x.2.1=g x.2.1):Ao p f L=Ao p g L:=by
 induction L with
 |nil=>rfl
 |cons x l ih=>
  unfold Ao;rw[ih fun y hy=>h y (zY _ hy)]
  by_cases e:x.1=p
  .rw[zF e,zF e,h x zf e]
  rw[zE e,zE e]
theorem I6(p:Nat)(f g:Nat->Rat)(L:List Lp):Ao p (fun h=>f h+g h) L=Ao p f L+Ao p g L:=by
 induction L with
 |nil=>exact(ww 0).symm
 |cons x l ih=>unfold Ao;rw[ih];split<;>grind
theorem I7(p:Nat)(c:Rat)(f:Nat->Rat)(L:List Lp):Ao p (fun h=>c*f h) L=c*Ao p f L:=by
 induction L with
 |nil=>exact(vj c).symm
 |cons x l ih=>unfold Ao;rw[ih];split<;>grind
theorem LV(p:Nat)(f g:Nat->Rat)(L:List Lp):Ao p (fun h=>f h-g h) L=Ao p f L-Ao p g L:=by
 induction L with
 |nil=>show (0:Rat)=0-0;grind
 |cons x l ih=>unfold Ao;rw[ih];split<;>grind
theorem Ei{p:Nat}{f:Nat->Rat}{L:List Lp}(h:∀x,x∈L->x.1=p->f x.2.1=0):Ao p f L=0:=by
 have h1:=I7 p 0 f L;rw[E2 (g:=fun h=>0*f h) fun x hx e=>by rw[h x hx e,vf],h1,vf]
theorem Tq(p n:Nat)(g:Nat->Nat->Rat)(L:List Lp):At n (fun j=>Ao p (g j) L)=Ao p (fun h=>At n fun j=>g j h) L:=by
 induction n with
 |zero=>exact(Ei fun _ _ _=>rfl).symm
 |succ n ih=>
  show (At n fun j=>Ao p (g j) L)+Ao p (g n) L=_
  rw[ih,<-I6];rfl
structure Caps(n:Nat)(L:List Lp):Prop where
 lt:∀x,x∈L->x.1<n/\x.2.1<n
 whole:∀x,x∈L->IsI (6000*x.2.2)
 pos:∀x,x∈L->0<x.2.2
 le1:∀p,Ao p (fun _=>1) L<=1
def Am(L:List Lp):List (Nat×Nat):=L.map fun x=>(x.2.1,x.1)
theorem KL{p:Nat}{f g:Nat->Rat}{L:List Lp}(hp:∀x,x∈L->0<x.2.2)(h:∀x,x∈L->x.1=p->f x.2.1<=g x.2.1):Ao p f L<=Ao p g L:=by
 induction L with
 |nil=>exact xT
 |cons x l ih=>
  unfold Ao;have h1:=ih (fun y hy=>hp y (zY _ hy)) fun y hy=>h y (zY _ hy)
  by_cases e:x.1=p
  .rw[zF e,zF e];have h2:=yO (h x zf e) (xL (hp x zf));grind
  rw[zE e,zE e];grind
theorem Gs{p:Nat}{f g:Nat->Rat}{L:List Lp}(hp:∀x,x∈L->0<x.2.2)(h:∀x,x∈L->x.1=p->f x.2.1<=g x.2.1){x0:Lp}(h0:x0∈L)(e0:x0.1=p):Ao p f L+x0.2.2*(g x0.2.1-f x0.2.1)<=Ao p g L:=by
 induction L with
 |nil=>cases h0
 |cons x l ih=>
  unfold Ao
  rcases List.mem_cons.1 h0 with rfl|h0
  .rw[zF e0,zF e0];have h1:=KL (p:=p) (f:=f) (g:=g) (L:=l) (fun y hy=>hp y (zY _ hy)) fun y hy=>h y (zY _ hy);grind
  have h1:=ih (fun y hy=>hp y (zY _ hy)) (fun y hy=>h y (zY _ hy)) h0
  by_cases e:x.1=p
  .rw[zF e,zF e];have h2:=yO (h x zf e) (xL (hp x zf));grind
  rw[zE e,zE e];grind
theorem BP{p:Nat}{f:Nat->Rat}{L:List Lp}(hp:∀x,x∈L->0<x.2.2)(h:∀x,x∈L->x.1=p->0<=f x.2.1):0<=Ao p f L:=by
 have:=KL (p:=p) (f:=fun _=>0) (g:=f) hp h
 rwa [Ei fun _ _ _=>rfl]at this
theorem Caps.le_of{n p:Nat}{L:List Lp}{f:Nat->Rat}{c:Rat}(h:Caps n L)(hc:0<=c)(hf:∀x,x∈L->x.1=p->f x.2.1<=c):Ao p f L<=c:=by
 have h1:=KL (p:=p) (f:=f) (g:=fun h=>c*(fun _=>1) h) h.pos fun x hx e=>by rw[Rat.mul_one];exact hf x hx e
 rw[I7]at h1;have h2:=yO (h.le1 p) hc;grind
theorem Caps.int_sum{n p:Nat}{L:List Lp}{f:Nat->Rat}{D:Rat}(h:Caps n L)(hf:∀x,x∈L->x.1=p->IsI (D*f x.2.1)):IsI (6000*D*Ao p f L):=by
 have hw:=h.whole;clear h
 induction L with
 |nil=>show IsI (6000*D*0);rw[vj];exact IsI.zero
 |cons x l ih=>
  unfold Ao;have h1:=ih (fun y hy=>hf y (zY _ hy)) fun y hy=>hw y (zY _ hy)
  by_cases e:x.1=p
  .rw[zF e];have h2:=(hw x zf).mul (hf x zf e);have e2:6000*D*(x.2.2*f x.2.1+Ao p f l)=6000*x.2.2*(D*f x.2.1)+6000*D*Ao p f l:=by grind
   rw[e2];exact h2.add h1
  rw[zE e];have e2:6000*D*(0+Ao p f l)=6000*D*Ao p f l:=by grind
  rw[e2];exact h1
theorem VB{x:Rat}(h1:IsI (6000*x))(h2:0<x):1/6000<=x:=by
 obtain⟨d,e,hd⟩:=h1.toNat (by grind)
 have h3:(1:Rat)<=(d:Rat):=by
  have:((1:Nat):Rat)<=(d:Rat):=Rat.natCast_le_natCast.2 hd
  simpa using this
 grind
theorem FD{n:Nat}{L:List Lp}(hL:Caps n L)(d:Nat->Rat)(ρ:Nat->Nat)
 (h:∀p,p<n->0<d p->d p<=Ao p d L/\∃x,x∈L/\x.1=p/\ρ x.2.1<ρ p):∀p,p<n->d p<=0:=by
 intro p0 ad
 have key : ∀m,(∀p,p<m->d p<=0)\/∃q,q<m/\0<d q/\∀p,p<m->d p<d q\/(d p=d q/\ρ q<=ρ p):=by
  intro m
  induction m with
  |zero=>exact .inl fun p hp=>absurd hp (by omega)
  |succ m ih=>
   by_cases c:0<d m
   .rcases ih with ih|⟨q,q1,q2,q3⟩
    .refine .inr ⟨m,by omega,c,fun p hp=>?_⟩
     by_cases e:p=m
     .subst e;exact .inr ⟨rfl,zB _⟩
     have:=ih p (by omega);exact .inl (by grind)
    by_cases c2:d q<d m\/(d q=d m/\ρ m<=ρ q)
    .refine .inr ⟨m,by omega,c,fun p hp=>?_⟩
     by_cases e:p=m
     .subst e;exact .inr ⟨rfl,zB _⟩
     have:=q3 p (by omega)
     rcases c2 with c2|⟨c2,c3⟩
     .rcases this with t|⟨t,_⟩
      .exact .inl (by grind)
      exact .inl (by grind)
     rcases this with t|⟨t,t2⟩
     .exact .inl (by grind)
     exact .inr ⟨by grind,by omega⟩
    refine .inr ⟨q,by omega,q2,fun p hp=>?_⟩
    by_cases e:p=m
    .subst e
     by_cases c3:d p<d q
     .exact .inl c3
     refine .inr ?_;have h1:¬d q<d p:=fun a=>c2 (.inl a);have h2:d p=d q:=by grind
     refine⟨h2,?_⟩
     rcases vQ (ρ p) (ρ q) with a|a
     .exact absurd (Or.inr ⟨h2.symm,by omega⟩) c2
     exact a
    exact q3 p (by omega)
   rcases ih with ih|⟨q,q1,q2,q3⟩
   .refine .inl fun p hp=>?_
    by_cases e:p=m
    .subst e;exact Rat.not_lt.1 c
    exact ih p (by omega)
   refine .inr ⟨q,by omega,q2,fun p hp=>?_⟩
   by_cases e:p=m
   .subst e;exact .inl (by have:=Rat.not_lt.1 c;grind)
   exact q3 p (by omega)
 rcases key n with k|⟨q,q1,q2,q3⟩
 .exact k p0 ad
 exfalso;obtain⟨h1,x,x1,x2,x3⟩:=h q q1 q2
 have aa:∀y,y∈L->d y.2.1<=d q:=fun y hy=>by
  rcases q3 _ (hL.lt y hy).2 with a|⟨a,_⟩
  .exact xL a
  rw[a];exact xT
 have hg:=Gs (p:=q) (f:=d) (g:=fun _=>d q) hL.pos (fun y hy _=>aa y hy) x1 x2;have h2:Ao q (fun _=>d q) L<=d q:=hL.le_of (xL q2) fun _ _ _=>xT
 have h3:d x.2.1<d q:=by
  rcases q3 _ (hL.lt x x1).2 with a|⟨_,b⟩
  .exact a
  omega
 have h4:=vZ (hL.pos x x1) (show 0<d q-d x.2.1 by grind);grind
def Bg(L:List Lp)(u:List Nat)(val:Nat->Rat):Mx:=fun i j=>
 let p:=u.getD i 0
 if j=u.length then Ao p (fun h=>if h∈u then 0 else val h) L
 else (if i=j then 1 else 0)-Ao p (fun h=>if h=u.getD j 0 then 1 else 0) L
def Cx(S:Rat->Bool)(L:List Lp)(u:List Nat)(val:Nat->Rat):Nat->Rat :=
 match AB S u.length u.length (Bg L u val) with
 |.ok M=>fun p=>if p∈u then M (u.idxOf p) u.length else val p
 |.error _=>val
def NS(S:Rat->Bool)(L:List Lp):List (List Nat)->(Nat->Rat)->Nat->Rat
 | [],val=>val
 |u::us,val=>NS S L us (Cx S L u val)
theorem D1{u:List Nat}{i:Nat}(h:i<u.length):u.getD i 0=u[i]:=by simp[List.getD,h]
theorem ET{u:List Nat}{i:Nat}(h:i<u.length):u.getD i 0∈u:=by
 rw[D1 h];exact zO h
theorem Gt{u:List Nat}(hu:u.Nodup){i:Nat}(h:i<u.length):u.idxOf (u.getD i 0)=i:=by
 rw[D1 h];exact hu.idxOf_getElem i h
theorem Gu{u:List Nat}{p:Nat}(h:p∈u):u.getD (u.idxOf p) 0=p:=by
 have:=List.idxOf_lt_length_iff.2 h;rw[D1 this];exact List.getElem_idxOf this
theorem Tr{u:List Nat}(hu:u.Nodup)(y:Nat->Rat)(h:Nat):(At u.length fun j=>(if h=u.getD j 0 then 1 else 0)*y j)=if h∈u then y (u.idxOf h) else 0:=by
 by_cases e:h∈u
 .rw[zF e,Ck (k:=u.idxOf h) _ (List.idxOf_lt_length_iff.2 e) fun j hj d=>?_]
  .rw[Gu e,zF rfl,wL]
  rw[zE,vf];intro e2;rw[e2,Gt hu hj]at d;exact d rfl
 rw[zE e];exact CD fun j hj=>by rw[zE (fun e2=>e (by rw[e2];exact ET hj)),vf]
theorem I8{L:List Lp}{u:List Nat}{val:Nat->Rat}(hu:u.Nodup){i:Nat}(hi:i<u.length)(y:Nat->Rat):
 (At u.length fun j=>Bg L u val i j*y j)=y i-Ao (u.getD i 0) (fun h=>if h∈u then y (u.idxOf h) else 0) L:=by
 rw [Az (g:=fun j=>(if i=j then 1 else 0)*y j+(-1)*Ao (u.getD i 0) (fun h=>y j*if h=u.getD j 0 then 1 else 0) L) fun j hj=>by
  unfold Bg;dsimp only;rw[zE (by omega),I7];grind]
 rw[CE,AW,Ck (k:=i) _ hi fun j _ d=>by rw[zE (fun e=>d e.symm),vf],zF rfl,wL,Tq]
 rw [E2 (g:=fun h=>if h∈u then y (u.idxOf h) else 0) fun x _ _=>by
  rw[<-Tr hu];exact Az fun j _=>ve _ _]
 grind
theorem Ts{L:List Lp}{u:List Nat}{val:Nat->Rat}(hu:u.Nodup)(y:Nat->Rat):
 Sol u.length (Bg L u val) y (fun i=>Bg L u val i u.length)<->∀i,i<u.length->y i=Ao (u.getD i 0) (fun h=>if h∈u then y (u.idxOf h) else val h) L:=by
 have key:∀i,i<u.length->((At u.length fun j=>Bg L u val i j*y j)=Bg L u val i u.length<->y i=Ao (u.getD i 0) (fun h=>if h∈u then y (u.idxOf h) else val h) L):=by
  intro i hi;rw[I8 hu hi,E2 (f:=fun h=>if h∈u then y (u.idxOf h) else val h) (g:=fun h=>(if h∈u then y (u.idxOf h) else 0)+(if h∈u then 0 else val h)) fun x _ _=>by split<;>grind,I6]
  have e:Bg L u val i u.length=Ao (u.getD i 0) (fun h=>if h∈u then 0 else val h) L:=by
   unfold Bg;dsimp only;rw[zF rfl]
  rw[e];constructor<;>intro h<;>grind
 unfold Sol;exact⟨fun h i hi=>(key i hi).1 (h i hi),fun h i hi=>(key i hi).2 (h i hi)⟩
theorem Fit.mono{B B':Nat}{x:Rat}(h:Fit B x)(hB:B<=B'):Fit B' x:=by
 obtain⟨a,b,d,d1,d2,d3⟩:=h;exact⟨a,b,d,d1,zQ d2 hB,d3⟩
structure Inv(L:List Lp)(F:List Nat)(done:List Nat)(val:Nat->Rat)(D:Nat):Prop where
 rng:∀p,0<=val p/\val p<=1
 dp:0<D
 dle:D<=6000^done.length
 whole:∀p,IsI ((D:Rat)*val p)
 eqs:∀p,p∈done->val p=Ao p val L
 rest:∀p,p∉done->val p=if p∈F then 1 else 0
 clo:∀p,p∈done->∀x,x∈L->x.1=p->rk (Am L) F x.2.1<=0\/x.2.1∈done
 dn:∀p,p∈done->0<rk (Am L) F p
theorem Inv.start(L:List Lp)(F:List Nat):Inv L F [] (fun p=>if p∈F then 1 else 0) 1:=by
 refine⟨fun p=>?_,by omega,by simp,fun p=>?_,fun p h=>by simp at h,fun p _=>rfl,fun p h=>by simp at h,fun p h=>by simp at h⟩
 .split<;>constructor<;>decide
 split
 .exact(IsI.nat 1).mul IsI.one
 exact(IsI.nat 1).mul IsI.zero
structure Nxt(L:List Lp)(F:List Nat)(done u:List Nat):Prop where
 nodup:u.Nodup
 new:∀p,p∈u->p∉done
 pos:∀p,p∈u->0<rk (Am L) F p
 clo:∀p,p∈u->∀x,x∈L->x.1=p->rk (Am L) F x.2.1<=0\/x.2.1∈u\/x.2.1∈done
def Ready(L:List Lp)(F:List Nat):List Nat->List (List Nat)->Prop
 |_,[]=>True
 |done,u::us=>Nxt L F done u/\Ready L F (done++u) us
def tq:Rat:=1/12000
theorem I9(k:Nat):0<tq^k/\tq^k<=1:=by
 induction k with
 |zero=>rw[Rat.pow_zero];constructor<;>decide
 |succ k ih=>
  rw[qE];have h1:(0:Rat)<tq:=by unfold tq;grind
  refine⟨vZ ih.1 h1,?_⟩;have h2:=yO (show tq<=1 by unfold tq;grind) (xL ih.1);grind
theorem GL{L:List Lp}{h p:Nat}(e:(h,p)∈Am L):∃x,x∈L/\x.1=p/\x.2.1=h:=by
 unfold Am at e;obtain⟨x,hx,e2⟩:=List.mem_map.1 e;injection e2 with a b;exact⟨x,hx,b,a⟩
theorem JR{L:List Lp}{x:Lp}(h:x∈L):(x.2.1,x.1)∈Am L:=List.mem_map.2 ⟨x,h,rfl⟩
theorem Nxt.sys{n D:Nat}{L:List Lp}{F done u:List Nat}{val:Nat->Rat}(hL:Caps n L)(hi:Inv L F done val D)(hx:Nxt L F done u):
 Sys u.length 6000 D (Bg L u val) (fun j=>1-tq^(rk (Am L) F (u.getD j 0)).toNat):=by
 have one01:∀(c:Prop)[Decidable c],0<=(if c then (1:Rat) else 0):=fun c _=>by split<;>decide
 refine⟨⟨fun i ad=>?_,fun i j h1 h2 h3=>?_,fun i h1=>?_,fun i h1=>?_,fun i h1=>?_,fun j _=>?_⟩,by omega,hi.dp,fun i j h1 h2=>?_,fun i h1=>?_⟩
 .unfold Bg;dsimp only;rw[zE (by omega),zF rfl];have:=BP (p:=u.getD i 0) (f:=fun h=>if h=u.getD i 0 then 1 else 0) hL.pos fun x _ _=>one01 _;grind
 .unfold Bg;dsimp only;rw[zE (by omega),zE (fun e=>h3 e.symm)];have:=BP (p:=u.getD i 0) (f:=fun h=>if h=u.getD j 0 then 1 else 0) hL.pos fun x _ _=>one01 _;grind
 .unfold Bg;dsimp only;rw[zF rfl]
  exact BP hL.pos fun x _ _=>by
   split
   .exact xT
   exact(hi.rng _).1
 .have h2:=I8 (L:=L) (val:=val) hx.nodup h1 (fun _=>1);rw[Az (g:=Bg L u val i) fun j _=>Rat.mul_one _]at h2;rw[h2];unfold Bg;dsimp only;rw[zF rfl]
  have h3:Ao (u.getD i 0) (fun h=>(if h∈u then 0 else val h)+if h∈u then 1 else 0) L<=1:=hL.le_of (by decide) fun x _ _=>by
   split
   .grind
   have:=(hi.rng x.2.1).2;grind
  rw[I6]at h3;grind
 .rw [I8 hx.nodup h1];have hp:=hx.pos _ (ET h1);obtain⟨r,hr⟩:∃r:Nat,rk (Am L) F (u.getD i 0)=((r+1:Nat):Int):=⟨(rk (Am L) F (u.getD i 0)).toNat-1,by omega⟩;obtain⟨h0,k1,k2⟩:=FX hr;obtain⟨x0,x1,x2,x3⟩:=GL k2
  have hg:=Gs (p:=u.getD i 0) (f:=fun h=>if h∈u then 1-tq^(rk (Am L) F (u.getD (u.idxOf h) 0)).toNat else 0) (g:=fun _=>1) hL.pos (fun y _ _=>by
   split
   .have:=(I9 (rk (Am L) F (u.getD (u.idxOf y.2.1) 0)).toNat).1;grind
   decide) x1 x2
  have ae:=hL.le1 (u.getD i 0);have aa:=VB (hL.whole x0 x1) (hL.pos x0 x1)
  have d:tq^r<=1-(if x0.2.1∈u then 1-tq^(rk (Am L) F (u.getD (u.idxOf x0.2.1) 0)).toNat else 0):=by
   split
   .next e=>
    rw[Gu e,x3,k1]
    show tq^r<=1-(1-tq^((r:Int)).toNat)
    rw[wZ];grind
   have:=(I9 r).2;grind
  have e1:((rk (Am L) F (u.getD i 0)).toNat)=r+1:=by rw[hr];exact wZ _
  rw[e1,qE];have h5:=yO d (xL (hL.pos x0 x1));have h6:=yO aa (xL (I9 r).1);have h7:tq^r*tq<tq^r*(1/6000):=Rat.mul_lt_mul_of_pos_left (by unfold tq;grind) (I9 r).1;grind
 .have:=(I9 (rk (Am L) F (u.getD j 0)).toNat).2;grind
 .unfold Bg;dsimp only;rw[zE (by omega)]
  have h3:=hL.int_sum (p:=u.getD i 0) (f:=fun h=>if h=u.getD j 0 then 1 else 0) (D:=1) fun x _ _=>by
   split
   .exact IsI.one.mul IsI.one
   exact IsI.one.mul IsI.zero
  have h4:IsI ((if i=j then 1 else 0)*6000):=by
   split
   .exact IsI.one.mul (IsI.nat 6000)
   exact IsI.zero.mul (IsI.nat 6000)
  have e:((6000:Nat):Rat)*((if i=j then 1 else 0)-Ao (u.getD i 0) (fun h=>if h=u.getD j 0 then 1 else 0) L)=(if i=j then 1 else 0)*6000+-(6000*1*Ao (u.getD i 0) (fun h=>if h=u.getD j 0 then 1 else 0) L):=by
   rw[show ((6000:Nat):Rat)=6000 from rfl];grind
  rw[e];exact h4.add h3.neg
 unfold Bg;dsimp only;rw[zF rfl]
 exact hL.int_sum fun x _ _=>by
  split
  .rw[vj];exact IsI.zero
  exact hi.whole _
theorem JS{m d D:Nat}(h1:D<=6000^d)(h2:d+m<=16):(6000^(m+1)*D)*(6000^(m+1)*D)<=6000^34:=by
 have h3:6000^(m+1)*D<=6000^17:=by
  calc 6000^(m+1)*D<=6000^(m+1)*6000^d:=yr _ h1
   _=6000^(m+1+d):=(xu _ _ _).symm
   _<=6000^17:=zj (by omega) (by omega)
 calc _<=6000^17*6000^17:=wl h3 h3
  _=6000^34:=(xu _ _ _).symm
theorem Inv.step{n D:Nat}{S:Rat->Bool}{L:List Lp}{F done u:List Nat}{val:Nat->Rat}(hL:Caps n L)(hS:∀x,Fit (6000^34) x->S x=true)
 (hi:Inv L F done val D)(hx:Nxt L F done u)(af:done.length+u.length<=16):
 ∃M D',AB S u.length u.length (Bg L u val)=.ok M/\Inv L F (done++u) (Cx S L u val) D':=by
 obtain⟨M,m1,m2,m3,d,d1,d2,d3⟩:=(hx.sys hL hi).result (S:=S) fun x h=>hS x (h.mono (JS hi.dle af));have hv:Cx S L u val=fun p=>if p∈u then M (u.idxOf p) u.length else val p:=by unfold Cx;rw[m1]
 have ag:=(Ts (L:=L) (val:=val) hx.nodup fun i=>M i u.length).1 ((m2 _).2 fun _ _=>rfl);have ae:∀{p},p∈u->u.idxOf p<u.length:=fun h=>List.idxOf_lt_length_iff.2 h
 have ad:∀p,p∈done->Ao p (fun q=>if q∈u then M (u.idxOf q) u.length else val q) L=Ao p val L:=fun p hp=>E2 fun x aa e=>by
  rw[zE];intro hm
  rcases hi.clo p hp x aa e with a|a
  .have:=hx.pos _ hm;omega
  exact hx.new _ hm a
 refine⟨M,d*D,m1,?_⟩;rw[hv];refine⟨fun p=>?_,wM d1 hi.dp,?_,fun p=>?_,fun p hp=>?_,fun p hp=>?_,fun p hp x aa e=>?_,fun p hp=>?_⟩
 .split
  .next e=>exact m3 _ (ae e)
  exact hi.rng p
 .rw[zX,xu,yT];exact wl hi.dle d2
 .split
  .next e=>exact d3 _ (ae e)
  have:=(IsI.nat d).mul (hi.whole p)
  rwa [xh,Rat.mul_assoc]
 .by_cases e:p∈u
  .rw[zF e];have:=ag _ (ae e)
   rwa [Gu e]at this
  rw[zE e]
  rcases List.mem_append.1 hp with h|h
  .rw[ad p h];exact hi.eqs p h
  exact absurd h e
 .rw[zE (fun h=>hp (yz _ h))];exact hi.rest p fun h=>hp (yV _ h)
 .rcases List.mem_append.1 hp with h|h
  .rcases hi.clo p h x aa e with a|a
   .exact .inl a
   exact .inr (yV _ a)
  rcases hx.clo p h x aa e with a|a|a
  .exact .inl a
  .exact .inr (yz _ a)
  exact .inr (yV _ a)
 rcases List.mem_append.1 hp with h|h
 .exact hi.dn p h
 exact hx.pos p h
theorem Inv.run{n:Nat}{S:Rat->Bool}{L:List Lp}{F:List Nat}(hL:Caps n L)(hS:∀x,Fit (6000^34) x->S x=true):
 ∀(us:List (List Nat)) (done:List Nat) (val:Nat->Rat) (D:Nat),Inv L F done val D->Ready L F done us->done.length+us.flatten.length<=16->∃D',Inv L F (done++us.flatten) (NS S L us val) D':=by
 intro us
 induction us with
 |nil=>intro done val D hi _ _;exact⟨D,by simpa [NS] using hi⟩
 |cons u us ih=>
  intro done val D hi hr d;rw[wV,zX]at d;obtain⟨M,D',_,h⟩:=hi.step hL hS hr.1 (by omega);have:=ih (done++u) _ D' h hr.2 (by rw[zX];omega);rw[wV,<-xr];exact this
structure Eff(n:Nat)(L:List Lp)(F:List Nat)(e:Nat->Rat):Prop where
 rng:∀p,0<=e p/\e p<=1
 listed:∀p,p∈F->e p=1
 o:∀p,p<n->rk (Am L) F p<0->e p=0
 sum:∀p,p<n->p∉F->e p=Ao p e L
 pos:∀p,p<n->(0<e p<->0<=rk (Am L) F p)
theorem Inv.eff{n D:Nat}{L:List Lp}{F done:List Nat}{val:Nat->Rat}(hL:Caps n L)(hi:Inv L F done val D)(d:∀p,p<n->0<rk (Am L) F p->p∈done):Eff n L F val:=by
 have aa:InN n (Am L):=fun y hy=>by
  obtain⟨x,hx,rfl⟩:=List.mem_map.1 hy;exact⟨(hL.lt x hx).2,(hL.lt x hx).1⟩
 have hl:∀p,p∈F->val p=1:=fun p hp=>by
  have:p∉done:=fun h=>by
   have h1:=hi.dn p h;have h2:rk (Am L) F p=0:=Fg.2 hp;omega
  rw[hi.rest p this,zF hp]
 have ho:∀p,p<n->rk (Am L) F p<0->val p=0:=fun p _ hr=>by
  rw[hi.rest p fun h=>by have:=hi.dn p h;omega,zE fun h=>by have:rk (Am L) F p=0:=Fg.2 h;omega]
 have hs:∀p,p<n->p∉F->val p=Ao p val L:=fun p hp hF=>by
  by_cases c:0<rk (Am L) F p
  .exact hi.eqs p (d p hp c)
  have c0:rk (Am L) F p≠0:=fun e=>hF (Fg.1 e);rw[ho p hp (by omega)];refine(Ei fun x hx e=>ho _ (hL.lt x hx).2 ?_).symm
  rcases Int.lt_or_le (rk (Am L) F x.2.1) 0 with a|a
  .exact a
  have:=Kv a (JR hx);rw[e]at this;omega
 refine⟨hi.rng,hl,ho,hs,fun p hp=>⟨fun h=>?_,fun h=>?_⟩⟩
 .rcases Int.lt_or_le (rk (Am L) F p) 0 with a|a
  .rw[ho p hp a]at h;exact absurd h (by decide)
  exact a
 obtain⟨r,hr⟩:∃r:Nat,rk (Am L) F p=(r:Int):=⟨(rk (Am L) F p).toNat,by omega⟩;clear h
 induction r generalizing p with
 |zero=>rw[hl p (Fg.1 hr)];decide
 |succ r ih=>
  have hF:p∉F:=fun h=>by have:rk (Am L) F p=0:=Fg.2 h;omega
  obtain⟨h0,k1,k2⟩:=FX hr;obtain⟨x0,x1,x2,x3⟩:=GL k2;have h4:=ih x0.2.1 (hL.lt x0 x1).2 (by rw[x3];exact k1);have h5:=Gs (p:=p) (f:=fun _=>0) (g:=val) hL.pos (fun y _ _=>(hi.rng _).1) x1 x2;rw[Ei fun _ _ _=>rfl]at h5;rw[hs p hp hF];have h6:=vZ (hL.pos x0 x1) h4;grind
section eff
variable {n:Nat} {L:List Lp} {F:List Nat} {e:Nat->Rat}
theorem Eff.least(hL:Caps n L)(h:Eff n L F e){v:Nat->Rat}(h0:∀p,p<n->0<=v p)(h1:∀p,p<n->p∈F->1<=v p)(h2:∀p,p<n->p∉F->Ao p v L<=v p):∀p,p<n->e p<=v p:=by
 intro p hp
 have:=FD hL (fun p=>e p-v p) (fun p=>(rk (Am L) F p).toNat) (fun p hp hd=>by
  have d:0<e p:=by have:=h0 p hp;grind
  have hr:=(h.pos p hp).1 d
  have hF:p∉F:=fun hm=>by
   have a:=h.listed p hm;have b:=h1 p hp hm;grind
  have aa:rk (Am L) F p≠0:=fun e=>hF (Fg.1 e);refine⟨?_,?_⟩
  .rw[LV,<-h.sum p hp hF];have:=h2 p hp hF;grind
  obtain⟨r,hr⟩:∃r:Nat,rk (Am L) F p=((r+1:Nat):Int):=⟨(rk (Am L) F p).toNat-1,by omega⟩;obtain⟨h0,k1,k2⟩:=FX hr;obtain⟨x0,x1,x2,x3⟩:=GL k2;exact⟨x0,x1,x2,by rw[x3];omega⟩) p hp
 grind
theorem Eff.one(hL:Caps n L){e':Nat->Rat}(h:Eff n L F e)(h':Eff n L F e'):∀p,p<n->e p=e' p:=fun p hp=>by
 have a:=h.least hL (fun q _=>(h'.rng q).1) (fun q _ hq=>by rw[h'.listed q hq];exact xT) (fun q hq hF=>by rw[<-h'.sum q hq hF];exact xT) p hp;have b:=h'.least hL (fun q _=>(h.rng q).1) (fun q _ hq=>by rw[h.listed q hq];exact xT) (fun q hq hF=>by rw[<-h.sum q hq hF];exact xT) p hp;grind
theorem Eff.most(hL:Caps n L)(h:Eff n L F e){v:Nat->Rat}(ρ:Nat->Nat)(h1:∀p,p<n->p∈F->v p<=1)
 (h2:∀p,p<n->p∉F->0<v p->v p<=Ao p v L/\∃x,x∈L/\x.1=p/\ρ x.2.1<ρ p):∀p,p<n->v p<=e p:=by
 intro p hp
 have:=FD hL (fun p=>v p-e p) ρ (fun p hp hd=>by
  have d:0<v p:=by have:=(h.rng p).1;grind
  have hF:p∉F:=fun hm=>by
   have a:=h.listed p hm;have b:=h1 p hp hm;grind
  obtain⟨a,b⟩:=h2 p hp hF d;refine⟨?_,b⟩;rw[LV,<-h.sum p hp hF];grind) p hp
 grind
end eff
end Sh
end
section
namespace Ci
section
variable {E:List (Nat×Nat)} {n p q:Nat}
theorem Qv{l:List Nat}(h:l.Nodup){i j:Nat}{hi:i<l.length}{hj:j<l.length}(e:l[i]=l[j]):i=j:=by
 have hp:=List.pairwise_iff_getElem.1 h
 rcases Nat.lt_trichotomy i j with c|c|c
 .exact absurd e (hp i j hi hj c)
 .exact c
 exact absurd e.symm (hp j i hj hi c)
theorem LW(hE:InN n E):p∈ords n E<->p<n/\fst E p=p:=by
 unfold ords;rw[Kx n _ (Left.start hE) C3];exact Bw
theorem IA(hE:InN n E):(ords n E).Nodup:=(Jw n _ (Left.start hE) C3).1
theorem Tt(hE:InN n E):(ords n E).length<=n:=by
 have:=(Jw n _ (Left.start hE) C3).2;have h2:=C3 (n:=n) (E:=E);unfold ords;omega
theorem GM:(Ax n E).length=(ords n E).length:=by simp[Ax]
theorem Fp{k:Nat}(hk:k<(Ax n E).length):(Ax n E)[k]=CR n E ((ords n E)[k]'(by simpa [Ax] using hk)):=by simp[Ax]
noncomputable def at'(n:Nat)(E:List (Nat×Nat))(p:Nat):Nat:=(ords n E).idxOf (fst E p)
theorem JT(hE:InN n E)(hp:p<n):at' n E p<(ords n E).length:=List.idxOf_lt_length_iff.2 ((LW hE).2 ⟨G9 hp,FY⟩)
theorem KM(hE:InN n E)(hp:p<n):(ords n E)[at' n E p]'(JT hE hp)=fst E p:=List.getElem_idxOf (JT hE hp)
theorem GN(hE:InN n E)(hp:p<n){k:Nat}(hk:k<(Ax n E).length):p∈(Ax n E)[k]<->k=at' n E p:=by
 have d:k<(ords n E).length:=by rwa [GM]at hk
 have ho:=(LW hE).1 (zO d);rw[Fp,CL];constructor
 .rintro ⟨_,hm⟩
  have h1:(ords n E)[k]=(ords n E)[at' n E p]'(JT hE hp):=by
   rw[KM hE hp,<-ho.2];exact FE hm
  exact Qv (IA hE) h1
 intro e;subst e;refine⟨hp,?_⟩;rw[KM hE hp];exact Ep.symm
theorem VC(hE:InN n E)(e:(p,q)∈E):at' n E p<=at' n E q:=by
 obtain⟨hp,hq⟩:=hE _ e;exact P4 n _ (Left.start hE) C3 _ _ (JT hE hp) (JT hE hq) p q e (KM hE hp).symm (KM hE hq).symm
variable {F F':List Nat}
end
end Ci
end
section
namespace Sh
open Nt Ci
noncomputable def unk(E:List (Nat×Nat))(F:List Nat)(c:List Nat):List Nat:=c.filter fun p=>decide (0<rk E F p)
noncomputable def BQ(n:Nat)(E:List (Nat×Nat))(F:List Nat):List (List Nat):=(Ax n E).map (unk E F)
theorem E3{E:List (Nat×Nat)}{F c:List Nat}{p:Nat}:p∈unk E F c<->p∈c/\0<rk E F p:=by
 unfold unk;rw[List.mem_filter,ye]
theorem Hr{n:Nat}{E:List (Nat×Nat)}{k:Nat}(hk:k<(Ax n E).length):((Ax n E)[k]).Nodup:=by
 rw[Fp];exact MQ
theorem IB{n:Nat}{E:List (Nat×Nat)}{F:List Nat}{k:Nat}(hk:k<(Ax n E).length):(BQ n E F)[k]'(by unfold BQ;rw[zW];exact hk)=unk E F (Ax n E)[k]:=by
 unfold BQ;rw[yJ]
theorem DU{n:Nat}{E:List (Nat×Nat)}{F:List Nat}(hE:InN n E){t p:Nat}(ht:t<=(Ax n E).length):p∈((BQ n E F).take t).flatten<->p<n/\0<rk E F p/\at' n E p<t:=by
 have hl:(BQ n E F).length=(Ax n E).length:=by unfold BQ;rw[zW]
 rw[List.mem_flatten];constructor
 .rintro ⟨u,hu,hp⟩;obtain⟨k,hk,rfl⟩:=zi hu;rw[xI]at hk;have d:k<(Ax n E).length:=by omega
  rw[vI,IB d,E3]at hp
  have h:p<n:=by
   rw[Fp,CL]at hp;exact hp.1.1
  have:=(GN hE h d).1 hp.1;exact⟨h,hp.2,by omega⟩
 rintro⟨h1,h2,h3⟩;have d:at' n E p<(Ax n E).length:=by omega
 refine⟨(BQ n E F)[at' n E p]'(by omega),?_,?_⟩
 .rw[List.mem_iff_getElem];exact⟨at' n E p,by rw[xI];omega,by rw[vI]⟩
 rw[IB d,E3];exact⟨(GN hE h1 d).2 rfl,h2⟩
theorem NT{n:Nat}{L:List Lp}{F:List Nat}(hE:InN n (Am L)):∀(m t:Nat),t+m=(Ax n (Am L)).length->Ready L F ((BQ n (Am L) F).take t).flatten ((BQ n (Am L) F).drop t):=by
 have hl:(BQ n (Am L) F).length=(Ax n (Am L)).length:=by unfold BQ;rw[zW]
 intro m
 induction m with
 |zero=>
  intro t ht;rw[List.drop_eq_nil_of_le (by omega)];trivial
 |succ m ih=>
  intro t ht;have d:t<(Ax n (Am L)).length:=by omega
  have aa:t<(BQ n (Am L) F).length:=by omega
  rw[wR aa];refine⟨?_,?_⟩
  .rw [IB d];refine⟨(Hr d).filter _,fun p hp hd=>?_,fun p hp=>(E3.1 hp).2,fun p hp x hx e=>?_⟩
   .have h1:=(DU hE (by omega)).1 hd;have h2:=(GN hE h1.1 d).1 (E3.1 hp).1;omega
   by_cases c:rk (Am L) F x.2.1<=0
   .exact .inl c
   have he:=JR hx;rw[e]at he;have h:x.2.1<n/\p<n:=hE _ he;have h2:=(GN hE h.2 d).1 (E3.1 hp).1;have h3:at' n (Am L) x.2.1<=at' n (Am L) p:=VC hE he
   by_cases c2:at' n (Am L) x.2.1=t
   .exact .inr (.inl (E3.2 ⟨(GN hE h.1 d).2 c2.symm,by omega⟩))
   exact .inr (.inr ((DU hE (by omega)).2 ⟨h.1,by omega,by omega⟩))
  have h1:=ih (t+1) (by omega);rw[List.take_add_one,ze aa,Option.toList_some,xj,List.flatten_singleton]at h1;exact h1
theorem GO{n:Nat}{L:List Lp}{F:List Nat}(hE:InN n (Am L)):Ready L F [] (BQ n (Am L) F):=by
 have:=NT (F:=F) hE (Ax n (Am L)).length 0 (by omega)
 simpa using this
theorem Xe{n:Nat}{L:List Lp}{F:List Nat}(hE:InN n (Am L)){p:Nat}(hp:p<n)(hr:0<rk (Am L) F p):p∈(BQ n (Am L) F).flatten:=by
 have hl:(BQ n (Am L) F).length=(Ax n (Am L)).length:=by unfold BQ;rw[zW]
 have h1:=(DU (F:=F) hE (t:=(Ax n (Am L)).length) (zB _)).2 ⟨hp,hr,by have:=JT hE hp;rw[GM];exact this⟩
 rwa [xA (by omega)]at h1
theorem Ready.drop_nil{L:List Lp}{F:List Nat}:∀{us:List (List Nat)} {done:List Nat},Ready L F done us->Ready L F done (us.filter fun u=>decide (u≠[])):=by
 intro us
 induction us with
 |nil=>intro done _;trivial
 |cons u us ih=>
  intro done h;rw[zk]
  by_cases e:u=[]
  .rw[zE (by simp[e])];have h2:=h.2;rw[e,xV]at h2;exact ih h2
  rw[zF (by simp[e])];exact⟨h.1,ih h.2⟩
theorem EU(us:List (List Nat)):(us.filter fun u=>decide (u≠[])).flatten=us.flatten:=by
 induction us with
 |nil=>rfl
 |cons u us ih=>
  rw[zk]
  by_cases e:u=[]
  .rw[zE (by simp[e]),ih,e];rfl
  rw[zF (by simp[e]),wV,wV,ih]
noncomputable def Hs(n:Nat)(E:List (Nat×Nat))(F:List Nat):List (List Nat):=(BQ n E F).filter fun u=>decide (u≠[])
noncomputable def LX(S:Rat->Bool)(n:Nat)(L:List Lp)(F:List Nat):Nat->Rat:=NS S L (Hs n (Am L) F) fun p=>if p∈F then 1 else 0
theorem Caps.inN{n:Nat}{L:List Lp}(hL:Caps n L):InN n (Am L):=fun y hy=>by
 obtain⟨x,hx,rfl⟩:=List.mem_map.1 hy;exact⟨(hL.lt x hx).2,(hL.lt x hx).1⟩
theorem LY{n:Nat}{S:Rat->Bool}{L:List Lp}{F:List Nat}(hL:Caps n L)(hS:∀x,Fit (6000^34) x->S x=true)(d:(BQ n (Am L) F).flatten.length<=16):
 ∃D,D<=6000^16/\Inv L F (BQ n (Am L) F).flatten (LX S n L F) D:=by
 have hr:=(GO (F:=F) hL.inN).drop_nil;obtain⟨D,hD⟩:=Inv.run hL hS _ [] _ 1 (Inv.start L F) hr (by rw[EU];simpa using d);rw[EU,yM]at hD;exact⟨D,zQ hD.dle (zj (by omega) d),hD⟩
theorem Tu{n:Nat}{S:Rat->Bool}{L:List Lp}{F:List Nat}(hL:Caps n L)(hS:∀x,Fit (6000^34) x->S x=true)(d:(BQ n (Am L) F).flatten.length<=16):Eff n L F (LX S n L F):=by
 obtain⟨D,_,h⟩:=LY hL hS d;exact h.eff hL fun p hp hr=>Xe hL.inN hp hr
def Ag(l:List Lk):List Lp:=l.map fun x=>(x.1.toNat,x.2.1.toNat,vq (lkP x))
theorem Ht{x:Rw}(h:unitsN x≠0):A4 x.1 x.2.1 x.2.2=true/\x.1=false/\val x.2.1<=val x.2.2/\6000%val x.2.2=0/\unitsN x=val x.2.1*(6000/val x.2.2):=by
 unfold unitsN at h ⊢
 split at h
 .exact absurd rfl h
 rename_i h1
 split at h
 .exact absurd rfl h
 rename_i h2;rw[zE h1,zE h2];refine⟨?_,?_,by omega,by omega,rfl⟩
 .cases c:A4 x.1 x.2.1 x.2.2 with
  |true=>rfl
  |false=>exact absurd (.inl c) h1
 cases c:x.1 with
 |false=>rfl
 |true=>exact absurd (.inr (.inl c)) h1
theorem Qw{g:Bool}{n d:ByteArray}(h:A4 g n d=true):val d≠0:=by
 obtain⟨q,_,_,_,rfl⟩:=Ip h
 show val (num q.den)≠0
 rw[Bi];exact q.den_nz
theorem GP{x:Rw}(h:unitsN x≠0):6000*vq x=(unitsN x:Rat):=by
 obtain⟨h1,h2,h3,h4,h5⟩:=Ht h;have hd:=Qw h1;obtain⟨g,n,d⟩:=x;simp only at h1 h2 h3 h4 h5 hd;subst h2;rw[h5];unfold vq
 show 6000*mkRat (sg false (val n)) (val d)=_
 have hk:val d*(6000/val d)=6000:=by have:=Nat.div_add_mod 6000 (val d);omega
 have hdr:(val d:Rat)≠0:=by
  intro e;exact hd (Rat.natCast_inj.1 (show ((val d:Nat):Rat)=((0:Nat):Rat) from e))
 have aa:(val d:Rat)*((6000/val d:Nat):Rat)=6000:=by
  rw[<-xh,hk];rfl
 rw[vT];have e1:((sg false (val n):Int):Rat)=(val n:Rat):=by unfold sg;simp[Rat.intCast_natCast]
 rw[e1,xh];generalize (val d:Rat)=D at hdr aa;generalize ((6000/val d:Nat):Rat)=K at aa;generalize (val n:Rat)=N;rw[<-aa,wT];have:=xf D hdr;grind
theorem Qx{x:Rw}(h:unitsN x≠0):0<vq x:=by
 have h1:=GP h;have h2:(0:Rat)<(unitsN x:Rat):=Rat.natCast_pos.2 (by omega);grind
theorem NU{p:Nat}:∀{l:List Lk},(∀x,x∈l->0<=x.1/\unitsN (lkP x)≠0)->6000*Ao p (fun _=>1) (Ag l)=(sumU l (p:Int):Rat):=by
 intro l
 induction l with
 |nil=>intro _;show 6000*0=((0:Nat):Rat);grind
 |cons x l ih=>
  intro h;obtain⟨h0,h1⟩:=h x zf;have h2:=ih fun y hy=>h y (zY _ hy);have h3:=GP h1;unfold Ag;rw[xS]
  show 6000*((if x.1.toNat=p then vq (lkP x)*1 else 0)+Ao p (fun _=>1) (Ag l))=_
  unfold sumU at h2 ⊢;rw[zk]
  by_cases e:x.1=(p:Int)
  .rw[zF (by omega),zF (by simpa using e),xS,List.sum_cons,Rat.natCast_add,<-h2,<-h3];grind
  rw[zE (by omega),zE (by simpa using e),<-h2];grind
theorem Fq{s:SR}(h:Ak s=true){x:Lk}(hx:x∈s.cap):(0<=x.1/\x.1<s.ps.length)/\(0<=x.2.1/\x.2.1<s.ps.length)/\unitsN (lkP x)≠0:=by
 unfold Ak at h;simp only[zr,yC]at h;obtain⟨i,hi,rfl⟩:=zi hx;obtain⟨⟨a1,a2,_,a4⟩,_,_⟩:=DH h.2.2.1 hi;exact⟨a1,a2,a4⟩
theorem BY{s:SR}(h:Ak s=true):Caps s.ps.length (Ag s.cap):=by
 refine⟨fun y hy=>?_,fun y hy=>?_,fun y hy=>?_,fun p=>?_⟩
 .obtain⟨x,hx,rfl⟩:=List.mem_map.1 hy;obtain⟨h1,h2,_⟩:=Fq h hx;exact⟨by show x.1.toNat<_;omega,by show x.2.1.toNat<_;omega⟩
 .obtain⟨x,hx,rfl⟩:=List.mem_map.1 hy;exact⟨(unitsN (lkP x):Nat),by show 6000*vq (lkP x)=_;rw[GP (Fq h hx).2.2,wh]⟩
 .obtain⟨x,hx,rfl⟩:=List.mem_map.1 hy;exact Qx (Fq h hx).2.2
 have h1:=NU (p:=p) (l:=s.cap) fun x hx=>⟨(Fq h hx).1.1,(Fq h hx).2.2⟩
 have hg:EM s.ps.length s.cap=true:=by
  unfold Ak at h;simp only[zr]at h;exact h.2.2.1
 have h2:=OJ (n:=s.ps.length) (l:=s.cap) s.cap.length (zB _) (fun i hi _=>DH hg hi) (p:Int);rw[zu]at h2;have h3:(sumU s.cap (p:Int):Rat)<=((6000:Nat):Rat):=Rat.natCast_le_natCast.2 h2;rw[<-h1]at h3;have h4:((6000:Nat):Rat)=6000:=rfl;rw[h4]at h3;grind
theorem Cl(s:SR):Am (Ag s.cap)=Ah s:=by
 unfold Am Ag Ah;rw[xz];rfl
theorem Ib{x:Rat}{d:Nat}(hd:0<d)(h:IsI ((d:Rat)*x)):x.den∣d:=by
 obtain⟨z,hz⟩:=h
 have hdr:(d:Rat)≠0:=by
  have:(0:Rat)<(d:Rat):=Rat.natCast_pos.2 hd;grind
 have e:x=mkRat z d:=by
  rw[vT,<-hz,wT];have:=xf _ hdr;grind
 rw[e,Rat.den_mkRat,zE (by omega)];exact Nat.div_dvd_of_dvd (qA _ _)
theorem Xf{x:Rat}(h1:-1<=x)(h2:x<=1):x.num.natAbs<=x.den:=by
 have a:=(vY _ _).1 h1;have b:=(vY _ _).1 h2;have e1:(-1:Rat).num=-1:=rfl;have e2:(-1:Rat).den=1:=rfl;have e3:(1:Rat).num=1:=rfl;have e4:(1:Rat).den=1:=rfl;rw[e1,e2]at a;rw[e3,e4]at b;omega
theorem LZ:6000^34<L1:=by
 unfold L1;rw[DQ];decide
theorem Cm{x:Rat}{B:Nat}(h:Fit B x)(hB:B<L1):ShortQ x:=by
 obtain⟨a,b,d,d1,d2,d3⟩:=h;have h1:=vV d1 (Ib d1 d3);have h2:=Xf a b;exact⟨by omega,by omega⟩
theorem KN:∀x,Fit (6000^34) x->SQ x=true:=fun _ h=>zG (Cm h LZ)
end Sh
end
section
open Go.RowKit Go.Shelf
namespace Sh
open Nt Ci
theorem AT{P:Program}{id:Nat}{Q:Exit->Act->World->Prop}{a:Act}{w:World}{l:List Oper}(hm:P.follows .mixedOrders=true)(hB:Region.lexB .any l.toArray=true)
 (h:wpQuiet P l.toArray (fun W=>Below w.heap.size w W) (fun a'=>∀w',Below w.heap.size w w'->Q .normal a' w') l a):(Code.region id l.toArray true).wp P Q a w :=
 wp_region_quiet (C:=fun W=>Below w.heap.size w W) hm hB ((zI _ w).drew) (by simpa using h)
theorem AA{P:Program}{f:FuncId}{args:Array Value}{w W:World}{v:Value}(hW:Below w.heap.size w W)(h:Calls P f args W fun e w'=>e=.returned v/\Below W.heap.size W w'):
 Calls P f args W fun e w'=>e=.returned v/\Below w.heap.size w w':=h.mono fun _ _ ⟨he,hb⟩=>⟨he,hW.trans (hb.mono hW.size)⟩
theorem OV(p q:Rat):decide (Is p q<=0)=decide (p<=q):=by
 unfold Is
 by_cases h:p<q
 .rw[zF h,zG (xL h)];rfl
 rw[zE h]
 by_cases e:p=q
 .have d:p<=q:=by rw[e];exact xT
  rw[zF e,zG d];rfl
 have d:¬p<=q:=fun c=>h (Rat.lt_of_le_of_ne c e);rw[zE e,zH d];rfl
theorem Yk(w:World):(zeroValue 48).run prog w=.ok (.agg #[.bool false,.string ⟨#[]⟩,.string ⟨#[]⟩]) w:=by kernel_rfl
def MapV(w:World)(mb n:Nat)(val:Nat->Rat):Prop :=
 ∃c f,MapK prog 3 κi w mb c f/\c<=100000/\∀p:Nat,p<n->match f (p:Int) with|some v=>v=qv (val p)|none=>val p=0
theorem MapV.below{w w':World}{mb n:Nat}{val:Nat->Rat}(h:MapV w mb n val)(hb:Below w.heap.size w w'):MapV w' mb n val:=by
 obtain⟨c,f,h1,h2,h3⟩:=h;exact⟨c,f,h1.below hb,h2,h3⟩
theorem MapV.lt{w:World}{mb n:Nat}{val:Nat->Rat}(h:MapV w mb n val):mb<w.heap.size:=by
 obtain⟨c,f,h1,_⟩:=h;exact h1.lt
structure VM(w:World)(vb mb n:Nat)(val:Nat->Rat):Prop where
 x:Bk w vb 77 [.map (some mb)]
 m:MapV w mb n val
theorem VM.below{w w':World}{vb mb n:Nat}{val:Nat->Rat}(h:VM w vb mb n val)(hb:Below w.heap.size w w'):VM w' vb mb n val:=⟨h.x.below hb,h.m.below hb⟩
theorem JU(n:Nat)(val:Nat->Rat)(vb mb p:Nat)(hp:p<n)(hn:n<=1000)(w:World)(hE:Env w)(hV:VM w vb mb n val):
 Calls prog 37 #[.int .i64 (p:Int),.pointer (some ⟨vb,0,none⟩)] w fun e w'=>e=.returned (qv (val p))/\Below w.heap.size w w':=by
 have ah:Hid (Below w.heap.size w (w.alloc (.cells #[.bool false,.string ⟨#[]⟩,.string ⟨#[]⟩] 48))):=((zI _ w).alloc (zB _) _);have ak:Hid (Bk (w.alloc (.cells #[.bool false,.string ⟨#[]⟩,.string ⟨#[]⟩] 48)) (w.heap.size) 48 [.bool false,.string ⟨#[]⟩,.string ⟨#[]⟩]):=by have h:=Bk.new w 48 [.bool false,.string ⟨#[]⟩,.string ⟨#[]⟩]; exact h
 have an:=zh (hV.below ah.o);obtain⟨c,f,hM,_,al⟩:=an.o.m;have aa:=hM.look_ok FO underlying77 (Yk _) (EB underlying3 (a:=(p:Int)) (by omega) (by omega));have hx:=an.o.x;have x0:=hx.c0;have x9:=hx.lt;have ad:=al p hp;replace hE:=zh hE;clear al hM an hV hx
 cases ai:f (p:Int) with
 |some u=>
  rw[ai]at aa ad;replace ad:u=qv (val p):=ad;obtain⟨g,n0,d,hq⟩:=Hn (val p);rw[hq]at ad;subst ad;replace aa:(Instr.lookup 77 (.map (some mb)) (.int .i64 (p:Int)) true).run prog (w.alloc (.cells #[.bool false,.string ⟨#[]⟩,.string ⟨#[]⟩] 48))=.ok (.tuple #[.agg #[.bool g,.string n0,.string d],.bool true]) (w.alloc (.cells #[.bool false,.string ⟨#[]⟩,.string ⟨#[]⟩] 48)):=aa;replace ai:=zh ai;have aj:Hid (Below w.heap.size w ((w.alloc (.cells #[.bool false,.string ⟨#[]⟩,.string ⟨#[]⟩] 48)).alloc (.cells #[.bool g,.string n0,.string d] 48))):=ah.o.alloc ah.o.size _;have ae:=zh (ak.o.alloc (.cells #[.bool g,.string n0,.string d] 48));clear ah ak;have ap:Hid (Bk ((w.alloc (.cells #[.bool false,.string ⟨#[]⟩,.string ⟨#[]⟩] 48)).alloc (.cells #[.bool g,.string n0,.string d] 48)) (w.alloc (.cells #[.bool false,.string ⟨#[]⟩,.string ⟨#[]⟩] 48)).heap.size 48 [.bool g,.string n0,.string d]):=Bk.new _ _ _;have r0:=ae.o.c0;have r1:=ae.o.c1;have r2:=ae.o.c2;have r9:=ae.o.lt;have aq:=ae.o.frozen 0;have ar:=ae.o.frozen 1;have au:=ae.o.frozen 2;go_enter func37,ntmps37;have am:Hid (Below w.heap.size w ((w.alloc (.cells #[.bool g,.string n0,.string d] 48)).alloc (.cells #[.bool g,.string n0,.string d] 48))):=((zI _ w).alloc (zB _) _).alloc (by simp) _;have af:Hid (Bk ((w.alloc (.cells #[.bool g,.string n0,.string d] 48)).alloc (.cells #[.bool g,.string n0,.string d] 48)) w.heap.size 48 [.bool g,.string n0,.string d]):=(Bk.new w _ _).alloc _;go_wp2
  (try simp only[Exit.inBlock,Exit.then])
  have s0:=af.o.c0;have s1:=af.o.c1;have s2:=af.o.c2;have s9:=af.o.lt;refine zo (v:=.agg #[.bool g,.string n0,.string d]) (by simp[results,results37,go_sem,s0,s1,s2]) rfl ⟨by rw[hq],am.o⟩
 |none=>
  rw[ai]at aa ad;replace ad:val p=0:=ad;obtain⟨g,n0,d,hq⟩:=Hn (0:Rat);rw[ad];replace aa:(Instr.lookup 77 (.map (some mb)) (.int .i64 (p:Int)) true).run prog (w.alloc (.cells #[.bool false,.string ⟨#[]⟩,.string ⟨#[]⟩] 48))=.ok (.tuple #[.agg #[.bool false,.string ⟨#[]⟩,.string ⟨#[]⟩],.bool false]) (w.alloc (.cells #[.bool false,.string ⟨#[]⟩,.string ⟨#[]⟩] 48)):=aa;replace ai:=zh ai;replace ad:=zh ad;have aj:Hid (Below w.heap.size w ((w.alloc (.cells #[.bool false,.string ⟨#[]⟩,.string ⟨#[]⟩] 48)).alloc (.cells #[.bool false,.string ⟨#[]⟩,.string ⟨#[]⟩] 48))):=ah.o.alloc ah.o.size _;have ae:=zh (ak.o.alloc (.cells #[.bool false,.string ⟨#[]⟩,.string ⟨#[]⟩] 48));clear ah ak;have ap:Hid (Bk ((w.alloc (.cells #[.bool false,.string ⟨#[]⟩,.string ⟨#[]⟩] 48)).alloc (.cells #[.bool false,.string ⟨#[]⟩,.string ⟨#[]⟩] 48)) (w.alloc (.cells #[.bool false,.string ⟨#[]⟩,.string ⟨#[]⟩] 48)).heap.size 48 [.bool false,.string ⟨#[]⟩,.string ⟨#[]⟩]):=Bk.new _ _ _;have kn:Hid (Calls prog 36 #[.int .i64 0] ((w.alloc (.cells #[.bool false,.string ⟨#[]⟩,.string ⟨#[]⟩] 48)).alloc (.cells #[.bool false,.string ⟨#[]⟩,.string ⟨#[]⟩] 48)) fun e w'=>e=.returned (.agg #[.bool g,.string n0,.string d])/\Below (((w.alloc (.cells #[.bool false,.string ⟨#[]⟩,.string ⟨#[]⟩] 48)).alloc (.cells #[.bool false,.string ⟨#[]⟩,.string ⟨#[]⟩] 48))).heap.size ((w.alloc (.cells #[.bool false,.string ⟨#[]⟩,.string ⟨#[]⟩] 48)).alloc (.cells #[.bool false,.string ⟨#[]⟩,.string ⟨#[]⟩] 48)) w'):=by have h:=JQ 0 (by omega) ((w.alloc (.cells #[.bool false,.string ⟨#[]⟩,.string ⟨#[]⟩] 48)).alloc (.cells #[.bool false,.string ⟨#[]⟩,.string ⟨#[]⟩] 48)) (hE.o.below aj.o);rw[show ((0:Int):Rat)=0 from rfl,hq]at h;exact h
  go_enter func37,ntmps37
  go_wp2_with fail
  refine kn.o.q fun w4 hb=>?_;have ao:=aj.t hb;have ag:=zh (ae.o.below hb);clear hb aj ae kn;have r0:=ag.o.c0;have r1:=ag.o.c1;have r2:=ag.o.c2;have r9:=ag.o.lt;have aq:=ag.o.frozen 0;have ar:=ag.o.frozen 1;have au:=ag.o.frozen 2;have am:Hid (Below w.heap.size w (((w4.setCell ⟨w.heap.size,0,none⟩ (.bool g)).setCell ⟨w.heap.size,1,none⟩ (.string n0)).setCell ⟨w.heap.size,2,none⟩ (.string d))):=(((ao.o.setCell (p:=⟨w.heap.size,0,none⟩) (zB _) _).setCell (p:=⟨w.heap.size,1,none⟩) (zB _) _).setCell (p:=⟨w.heap.size,2,none⟩) (zB _) _);have af:Hid (Bk (((w4.setCell ⟨w.heap.size,0,none⟩ (.bool g)).setCell ⟨w.heap.size,1,none⟩ (.string n0)).setCell ⟨w.heap.size,2,none⟩ (.string d)) (w.heap.size) 48 [.bool g,.string n0,.string d]):=(Bk.set (Bk.set (Bk.set ag.o 0 (.bool g)) 1 (.string n0)) 2 (.string d));go_wp2
  (try simp only[Exit.inBlock,Exit.then])
  have s0:=af.o.c0;have s1:=af.o.c1;have s2:=af.o.c2;have s9:=af.o.lt;refine zo (v:=.agg #[.bool g,.string n0,.string d]) (by simp[results,results37,go_sem,s0,s1,s2]) rfl ⟨by rw[hq],am.o⟩
theorem OW{a b:Int}(h:a=b):Ending.returned (.int .i64 a)=.returned (.int .i64 b):=by rw[h]
def Fz(l:List Int)(x:Int):Int:=if x∈l then (l.idxOf x:Int) else -1
theorem Wv{l:List Int}{x:Int}{k:Nat}(hk:k<l.length)(h:∀j (hj:j<l.length),j<k->l[j]≠x)(e:l[k]=x):Fz l x=(k:Int):=by
 have hm:x∈l:=by rw[<-e];exact zO hk
 unfold Fz;rw[zF hm];have h1:l.idxOf x<l.length:=List.idxOf_lt_length_of_mem hm;have h2:l[l.idxOf x]=x:=List.getElem_idxOf h1
 by_cases c:l.idxOf x<k
 .exact absurd h2 (h _ h1 c)
 by_cases c2:k<l.idxOf x
 .exact absurd e (by
   have:=List.not_of_lt_findIdx (p:=fun y=>y==x) (xs:=l) (i:=k) (by simpa [List.idxOf] using c2)
   simpa using this)
 omega
theorem Ww{l:List Int}{x:Int}(h:∀j (hj:j<l.length),l[j]≠x):Fz l x=-1:=by
 unfold Fz;rw[zE];intro hm;obtain⟨j,hj,e⟩:=zi hm;exact h j hj e
theorem Xg{l:List Int}{x:Int}:decide (0<=Fz l x)=decide (x∈l):=by
 unfold Fz
 by_cases h:x∈l
 .rw[zF h,zG h,zG (by omega)]
 rw[zE h,zH h];rfl
theorem GQ(A:Option Addr)(ca:Nat)(l:List Int)(x:Int)(w:World)(hA:InInt w A l)(hl:l.length<=140737488355328):
 Calls prog 75 #[.slice A l.length ca,.int .i64 x] w fun e w'=>e=.returned (.int .i64 (Fz l x))/\w'=w:=by
 replace hA:=zh hA;have aa:=zh (fun(k:Nat) (hk:k<l.length) h e=>Wv (l:=l) (x:=x) hk h e);have ad:=zh (fun h=>Ww (l:=l) (x:=x) h);go_enter func75,ntmps75;go_wp2
 go_loopw [8] (fun ix wr=>∃(k:Nat),k<=l.length/\ix=.int .i64 (k:Int)/\wr=w/\Hid (∀j (hj:j<l.length),j<k->l[j]≠x)) (fun ix _=>l.length-(intOf ix).toNat)
 case atStart=>exact⟨0,zS _,rfl,rfl,fun j _ h=>absurd h (yB _)⟩
 case round=>
  obtain⟨k,hk,rfl,rfl,hN⟩:=hrel
  by_cases hlt:k<l.length
  .obtain ⟨b,o,rfl,af,hc⟩:=hA.o (by omega);have e1:=hc k hlt;have hy:=zh (aa.o k hlt hN.o)
   have hn:Hid (l[k]≠x->∀j (hj:j<l.length),j<k+1->l[j]≠x):=fun h j hj h2=>by
    by_cases c:j=k
    .subst c;exact h
    exact hN.o j hj (by omega)
   obtain⟨y,d⟩:∃y,y=l[k]:=⟨_,rfl⟩;rw[<-d]at e1 hy hn;replace d:=zh d;have j0:(0:Int)<=(k:Int):=by omega
   have j1:(k:Int)<(l.length:Int):=by omega
   clear hc hN
   by_cases hxy:x=y
   .have m1:(x==y)=true:=by rw[xQ];exact hxy
    have hr:=zh (hy.o hxy.symm);replace hxy:=zh hxy;clear hn hy;go_wp2;go_ret;exact⟨OW hr.o.symm,rfl⟩
   have m1:(x==y)=false:=by rw[zN];exact hxy
   have ae:=zh (hn.o fun c=>hxy c.symm);replace hxy:=zh hxy;clear hn hy;go_wp2;exact⟨⟨k+1,by omega,by go_num,by first|rfl|trivial,ae⟩,by simp only[intOf];omega⟩
  obtain rfl:k=l.length:=by omega
  have hr:Hid (Fz l x=-1):=ad.o fun j hj=>hN.o j hj hj;go_wp2;go_ret;exact⟨OW hr.o.symm,rfl⟩
end Sh
end
section
open Go.RowKit Go.Shelf
namespace Ci
def Bv(l:List Nat):List Value:=l.map fun(q:Nat)=>.int .i64 (q:Int)
theorem E4(l:List Nat)(q:Nat):Bv (l++[q])=Bv l++[.int .i64 (q:Int)]:=by simp[Bv]
def Qy(u v:Value):Prop:=∀b,u.ownBlock=some b->v.ownBlock≠some b
structure Gr(W:World)(B R n:Nat)(v:Nat->Value)(adj:Nat->List Nat):Prop where
 lt:R<W.heap.size
 hd:∀i,i<n->W.cell? ⟨R,i,none⟩=some (v i)
 fr:∀i,W.frozen? ⟨R,i,none⟩=false
 rows:∀i,i<n->W.ownsRow B 3 1 (v i) (adj i).length (Bv (adj i))
 apart:∀i j,i<n->j<n->i≠j->Qy (v i) (v j)
 ne:∀i,i<n->(v i).ownBlock≠some R
 lowR:B<=R
section
variable {W W':World} {B R n i:Nat} {v:Nat->Value} {adj:Nat->List Nat}
theorem AC{base:Nat}{e:TypeId}{size m:Nat}{u:Value}{xs:List Value}(h:W.ownsRow base e size u m xs)(hb:Below W.heap.size W W'):W'.ownsRow base e size u m xs :=
 h.kept (row:=none) ⟨hb.os,hb.tape,hb.output,hb.size,fun k hk _=>hb.block k hk⟩ (by
  cases hu:u.ownBlock with
  |none=>exact .inl rfl
  |some b=>exact .inr (by simp))
theorem Gr.below(h:Gr W B R n v adj)(hb:Below W.heap.size W W'):Gr W' B R n v adj :=
 ⟨zJ h.lt hb.size,fun i hi=>(hb.cell (p:=⟨R,i,none⟩) h.lt).trans (h.hd i hi),fun i=>(hb.frozen (p:=⟨R,i,none⟩) h.lt).trans (h.fr i),fun i hi=>AC (h.rows i hi) hb,h.apart,h.ne,h.lowR⟩
theorem Gr.alloc(h:Gr W B R n v adj)(o:Obj):Gr (W.alloc o) B R n v adj:=h.below ((zI _ W).alloc (zB _) o)
theorem Gr.drew(h:Gr W B R n v adj):Gr W.drew B R n v adj:=h.below (zI _ W).drew
theorem Gr.mono{B':Nat}(h:Gr W B R n v adj)(hb:B'<=B):Gr W B' R n v adj :=
 ⟨h.lt,h.hd,h.fr,fun i hi=>by
   obtain⟨h1,h2⟩:=h.rows i hi;refine⟨h1,?_⟩
   rcases h2 with h2|⟨g,cap,cur,hv,hg,hh⟩
   .exact .inl h2
   exact .inr ⟨g,cap,cur,hv,zQ hb hg,hh⟩,h.apart,h.ne,zQ hb h.lowR⟩
theorem D3{base:Nat}{e:TypeId}{u:Value}{l:List Nat}(h:W.ownsRow base e 1 u l.length (Bv l)):
 (u=.slice none 0 0/\l=[])\/∃g cap,u=.slice (some ⟨g,0,none⟩) l.length cap/\base<=g/\g<W.heap.size/\(∀j,W.frozen? ⟨g,j,none⟩=false)/\∀j (hj:j<l.length),W.cell? ⟨g,j,none⟩=some (.int .i64 (l[j]:Int)):=by
 rcases h.2 with⟨rfl,h0⟩|⟨g,cap,cur,rfl,hb,hg,_⟩
 .exact .inl ⟨rfl,List.length_eq_zero_iff.1 h0⟩
 refine .inr ⟨g,cap,rfl,hb,(Array.getElem?_eq_some_iff.1 hg).1,fun j=>by simp[World.frozen?,hg],fun j hj=>?_⟩;have hc:=h.cells (g:=g) (by simp[Value.ownBlock]) j (.int .i64 (l[j]:Int)) (by simp[Bv,hj]);have d:∀o,(⟨g,0,none⟩:Addr).add o=⟨g,o,none⟩:=fun o=>by unfold Addr.add;split<;>simp_all
 rwa [d]at hc
theorem Gr.start(w:World){B:Nat}(hB:B<=w.heap.size)(n:Nat)(t:TypeId):Gr (w.alloc (.cells (madeCells #[.slice none 0 0] n) t)) B w.heap.size n (fun _=>.slice none 0 0) fun _=>[]:=by
 have h:=ym w (.cells (madeCells #[(.slice none 0 0:Value)] n) t);refine⟨by simp,fun x hx=>?_,fun x=>by simp only[World.frozen?,h];simp,fun _ _=>yf _ _ _ _,fun _ _ _ _ _ b hb=>(by cases hb),fun _ _ hb=>(by cases hb),hB⟩;simp only[World.cell?,h];simp[madeCells,hx];rw[qB];rfl
def EG(adj:Nat->List Nat)(x q:Nat):Nat->List Nat:=fun i=>if i=x then adj i++[q] else adj i
theorem Gr.step(h:Gr W B R n v adj){x q:Nat}(hx:x<n){u:Value}(hg:W.grownBy W' (v x).ownBlock)(ho:W'.ownsRow B 3 1 u ((adj x).length+1) (Bv (adj x)++[.int .i64 (q:Int)]))(hn:u.ownBlock=(v x).ownBlock\/u.ownBlock=some W.heap.size):
 Gr (W'.setCell ⟨R,x,none⟩ u) B R n (fun i=>if i=x then u else v i) (EG adj x q):=by
 have ag:some R≠(v x).ownBlock:=fun e=>h.ne x hx e.symm;have ad:W'.heap[R]? = W.heap[R]?:=hg.block R h.lt ag;have d:∀i,W'.cell? ⟨R,i,none⟩=W.cell? ⟨R,i,none⟩:=fun i=>zU (a:=⟨R,i,none⟩) ad;have ah:∀i,W'.frozen? ⟨R,i,none⟩=W.frozen? ⟨R,i,none⟩:=fun i=>yF (a:=⟨R,i,none⟩) ad
 have af:u.ownBlock≠some R:=fun e=>by
  rcases hn with hn|hn
  .exact h.ne x hx (by rw[<-hn,e])
  rw[e]at hn;have:=h.lt;simp only[Option.some.injEq]at hn;omega
 have ae:∀a b:Nat,a≠b->(⟨R,a,none⟩:Addr)≠⟨R,b,none⟩:=fun a b e1 e2=>by injection e2 with _ e3;exact e1 e3
 have far:∀{m:Nat} {z:Value} {xs:List Value},W'.ownsRow B 3 1 z m xs->z.ownBlock≠some R->(W'.setCell ⟨R,x,none⟩ u).ownsRow B 3 1 z m xs:=fun h hz=>
  h.kept (row:=some R) ⟨rfl,rfl,rfl,by simp,fun k _ hk=>zg _ _ _ _ (fun e=>hk (by rw[e]))⟩ (.inr hz)
 have aa:∀i,i<n->i≠x->Qy (v i) u:=fun i hi ai b hb e=>by
  rcases hn with hn|hn
  .exact h.apart i x hi hx ai b hb (by rw[<-hn,e])
  have:=((h.rows i hi).lt b hb).2;rw[e]at hn;simp only[Option.some.injEq]at hn;omega
 refine⟨by have:=hg.size;have:=h.lt;simp;omega,fun i hi=>?_,fun i=>by simpa [ah] using h.fr i,fun i hi=>?_,fun i j hi hj e=>?_,fun i hi=>?_,h.lowR⟩
 .by_cases e:i=x
  .subst e;rw[zF rfl];exact xN _ _ _ ((d i).trans (h.hd i hi))
  rw[zE e,yu _ _ _ _ (by first|exact ae _ _ e|exact ae _ _ fun c=>e c.symm),d];exact h.hd i hi
 .by_cases e:i=x
  .subst e;rw[zF rfl];have:EG adj i q i=adj i++[q]:=zF rfl;rw[this,zX,E4];exact far ho af
  rw[zE e];have:EG adj x q i=adj i:=zE e;rw[this];refine far ((h.rows i hi).kept hg ?_) (h.ne i hi)
  cases hv:(v i).ownBlock with
  |none=>exact .inl rfl
  |some b=>exact .inr fun c=>h.apart i x hi hx e b hv c.symm
 .by_cases e1:i=x
  .have e2:j≠x:=fun c=>e (by rw[e1,c]);rw[zF e1,zE e2];exact fun b hb hc=>aa j hj e2 b hc hb
  rw[zE e1]
  by_cases e2:j=x
  .rw[zF e2];exact aa i hi e1
  rw[zE e2];exact h.apart i j hi hj e
 by_cases e:i=x
 .rw[zF e];exact af
 rw[zE e];exact h.ne i hi
theorem Gr.congr{a':Nat->List Nat}(h:Gr W B R n v adj)(e:∀i,i<n->adj i=a' i):Gr W B R n v a' :=
 ⟨h.lt,h.hd,h.fr,fun i hi=>by rw[<-e i hi];exact h.rows i hi,h.apart,h.ne,h.lowR⟩
end
end Ci
end
section
open Go.RowKit Go.Shelf
namespace Ci
section
variable {w w':World} {base:Nat} {e:TypeId} {size:Nat} {u v v':Value} {n:Nat} {xs:List Value}
theorem BI{P:Program}(t ty e:TypeId)(i:TypeInfo)(z:Value)(size bytes:Nat)(ht:P.underlying t=some (.slice e))(hi:P.info? e=some i)(hz:i.zero=some z)
 (af:i.size=size)(aj:i.bytes=bytes)(v:Value)(n:Nat)(xs:List Value)(aa:w.ownsRow base e size v n xs)
 (a:Addr)(m c:Nat)(news:List Value)(hl:news.length=m*size)(d:∀j u,news[j]? = some u->w.cell? (a.add j)=some u)(h1:∀u∈news,u.oneCell'=true)(hm:0<m)
 (ai:n+m<=maxLen)(h:(n+m)*bytes<=140737488355328){v':Value}{w':World}(hr:(Builtin.append_ #[t,t] ty #[v,.slice (some a) m c]).run P w=.ok v' w'):
 v'.ownBlock=v.ownBlock\/v'.ownBlock=some w.heap.size:=by
 subst af;subst aj;have ah:n+m<=9223372036854775807:=by simp only[maxLen]at ai;omega
 rcases aa.2 with⟨rfl,rfl⟩|⟨g,cap,cur,rfl,_,hg,_,al,ak,_⟩
 .have ad:=run_append_nil (P:=P) w t ty e i z ht hi hz a m c news hl d (by omega) (by omega) (by have hb:=h;simp only[yS]at hb;omega);rw[ad]at hr;simp only[Result.ok.injEq]at hr;rw[<-hr.1];exact .inr rfl
 by_cases hroom:n+m<=cap
 .have ag:n*i.size+news.length<=cur.size:=by rw[hl,ak,<-yo];exact xB _ hroom
  have ad:=run_append_room (P:=P) w t ty e i ht hi g n cap cur hg a m c news hl d h1 hroom ag;rw[ad]at hr;simp only[Result.ok.injEq]at hr;rw[<-hr.1];exact .inl rfl
 have ae:∀j u,xs[j]? = some u->w.cell? ((⟨g,0,none⟩:Addr).add j)=some u:=aa.cells (g:=g) rfl;have ad:=run_append_grow (P:=P) w t ty e i z ht hi hz ⟨g,0,none⟩ n cap xs aa.1 ae a m c news hl d (by omega) (by omega) (growslice_fits (by omega) h);rw[ad]at hr;simp only[Result.ok.injEq]at hr;rw[<-hr.1];exact .inr rfl
end
theorem wpList_append_new{P:Program}(w:World){ops:Array Oper}{rest:List Oper}{o:Oper}{a:Act}{Q:Exit->Act->World->Prop}(aj:o.guard=none)(s x:Operand)(t:TypeId)
 (ho:o.op=.call { callee:=.builtin .append,args:=#[s,x],argTypes:=#[t,t] })
 (base:Nat)(e:TypeId)(i:TypeInfo)(z:Value)(size bytes:Nat)(ht:P.underlying t=some (.slice e))(hi:P.info? e=some i)(hz:i.zero=some z)
 (ae:i.size=size)(ai:i.bytes=bytes)(al:z.cells.size=size)(ak:0<size)
 (v:Value)(n:Nat)(xs:List Value)(hs:a.eval s=v)(af:w.ownsRow base e size v n xs)
 (ad:Addr)(m c:Nat)(news:List Value)(hx:a.eval x=.slice (some ad) m c)(hl:news.length=m*size)(aa:∀j u,news[j]? = some u->w.cell? (ad.add j)=some u)(h1:∀u∈news,u.oneCell'=true)(hm:0<m)
 (ah:n+m<=maxLen)(d:(n+m)*bytes<=140737488355328)(ag:base<=w.heap.size)
 (h:∀v' w',w'.ownsRow base e size v' (n+m) (xs++news)->w.grownBy w' v.ownBlock->(v'.ownBlock=v.ownBlock\/v'.ownBlock=some w.heap.size)->wpList P ops Q rest (a.put o.dst v') w'):wpList P ops Q (o::rest) a w :=
 wpList_plain aj fun _ hK=>by
  obtain⟨v',w',hr,h2,h3,_⟩:=vK (P:=P) w base t o.type e i z size bytes ht hi hz ae ai al ak v n xs af ad m c news hl aa h1 ah d ag;have h5:=BI (P:=P) t o.type e i z size bytes ht hi hz ae ai v n xs af ad m c news hl aa h1 hm ah d hr;unfold Oper.wp execOp;simp only[ho,resolve,invoke,builtin,vn,vS,wX,ws,xS,vi,hs,hx,hr];exact hK _ _ (h v' w' h2 h3 h5)
theorem AQ(v:Value)(h:v.oneCell'=true):∀u∈[v],u.oneCell'=true:=fun u hu=>by rw[List.mem_singleton.1 hu];exact h
theorem BO(w:World)(v:Value)(t:TypeId):∀j u,[v][j]? = some u->(w.alloc (.cells #[v] t)).cell? (Addr.add ⟨w.heap.size,0,none⟩ j)=some u:=by
 intro j u hj
 match j,hj with
 |0,hj=>simp at hj;subst hj;simp[Addr.add]
 |j+1,hj=>simp at hj
theorem AH{P:Program}(w:World){o:Oper}{a:Act}{K:Act->World->Prop}{Q:Exit->Act->World->Prop}(s x:Operand)(t:TypeId)
 (ho:o.op=.call { callee:=.builtin .append,args:=#[s,x],argTypes:=#[t,t] })
 (base:Nat)(e:TypeId)(i:TypeInfo)(z:Value)(size bytes:Nat)(ht:P.underlying t=some (.slice e))(hi:P.info? e=some i)(hz:i.zero=some z)
 (ae:i.size=size)(ai:i.bytes=bytes)(ak:z.cells.size=size)(aj:0<size)
 (v:Value)(n:Nat)(xs:List Value)(hs:a.eval s=v)(af:w.ownsRow base e size v n xs)
 (ad:Addr)(m c:Nat)(news:List Value)(hx:a.eval x=.slice (some ad) m c)(hl:news.length=m*size)(aa:∀j u,news[j]? = some u->w.cell? (ad.add j)=some u)(h1:∀u∈news,u.oneCell'=true)(hm:0<m)
 (ah:n+m<=maxLen)(d:(n+m)*bytes<=140737488355328)(ag:base<=w.heap.size)
 (h:∀v' w',w'.ownsRow base e size v' (n+m) (xs++news)->w.grownBy w' v.ownBlock->(v'.ownBlock=v.ownBlock\/v'.ownBlock=some w.heap.size)->K (a.put o.dst v') w'):o.wp P a w K Q:=by
 obtain⟨v',w',hr,h2,h3,_⟩:=vK (P:=P) w base t o.type e i z size bytes ht hi hz ae ai ak aj v n xs af ad m c news hl aa h1 ah d ag;have h5:=BI (P:=P) t o.type e i z size bytes ht hi hz ae ai v n xs af ad m c news hl aa h1 hm ah d hr;unfold Oper.wp execOp;simp only[ho,resolve,invoke,builtin,vn,vS,wX,ws,xS,vi,hs,hx,hr];exact h v' w' h2 h3 h5
end Ci
end
section
open Go.RowKit Go.Shelf
namespace Ci
open Nt
theorem Tv:(prog.info? 37).map (fun i=>(i.zero,i.size,i.bytes))=some (some (.slice none 0 0),1,24):=by kernel_rfl
theorem Tw:(prog.info? 3).map (fun i=>(i.zero,i.size,i.bytes))=some (some (.int .i64 0),1,8):=by kernel_rfl
def Cs(E:List (Nat×Nat))(k p:Nat):List Nat:=((E.take k).filter fun x=>decide (x.1=p)).map (·.2)
theorem Qz{E:List (Nat×Nat)}{k:Nat}(h:k<E.length)(p:Nat):Cs E (k+1) p=EG (Cs E k) E[k].1 E[k].2 p:=by
 unfold Cs EG;rw[zP h,yQ,yD]
 by_cases e:E[k].1=p
 .rw[zF e.symm,zk,zF (by simpa using e)];rfl
 rw[zE (fun c=>e c.symm),zk,zE (by simpa using e)];simp
theorem Ma{E:List (Nat×Nat)}{p q:Nat}:q∈Cs E E.length p<->(p,q)∈E:=by
 unfold Cs;rw[zu];simp only[vR,List.mem_filter,yC];constructor
 .rintro⟨x,⟨h1,rfl⟩,rfl⟩;exact h1
 exact fun h=>⟨(p,q),⟨h,rfl⟩,rfl⟩
theorem Tx(s:SR)(Ap Ac Av:Option Addr)(cp cc cv:Nat)(w:World)(hs:StIn w s Ap Ac Av)(hn:s.ps.length<=100)(aZ:s.cap.length<=300)(aJ:∀x,x∈s.cap->(0<=x.1/\x.1<s.ps.length)/\(0<=x.2.1/\x.2.1<s.ps.length)):
 Calls prog 42 #[.agg #[.slice Ap s.ps.length cp,.slice Ac s.cap.length cc,.slice Av s.vot.length cv]] w fun e w'=>(∃R v,e=.returned (.slice (some ⟨R,0,none⟩) s.ps.length s.ps.length)/\Gr w' w.heap.size R s.ps.length v (Cs (Ah s) (Ah s).length))/\Below w.heap.size w w':=by
 have aY:=vE (P:=prog) 94 37 (.slice none 0 0) 24 underlying94 Tv rfl .i64 .i64 s.ps.length (by omega) (by omega);have ar:Hid (Bk (w.alloc (.cells #[.slice Ap s.ps.length cp,.slice Ac s.cap.length cc,.slice Av s.vot.length cv] 32)) w.heap.size 32 (SC s Ap Ac Av cp cc cv)):=Bk.new w _ _;have aE:Hid (Below w.heap.size w (w.alloc (.cells #[.slice Ap s.ps.length cp,.slice Ac s.cap.length cc,.slice Av s.vot.length cv] 32))):=(zI _ w).alloc (zB _) _;have u0:=ar.o.c0;have u1:=ar.o.c1;have u9:=ar.o.lt
 have aM:Hid (Gr ((w.alloc (.cells #[.slice Ap s.ps.length cp,.slice Ac s.cap.length cc,.slice Av s.vot.length cv] 32)).alloc (.cells (madeCells #[(.slice none 0 0:Value)] s.ps.length) 37)) w.heap.size (w.heap.size+1) s.ps.length (fun _=>.slice none 0 0) (Cs (Ah s) 0)):=by
  have h:=Gr.start (w.alloc (.cells #[.slice Ap s.ps.length cp,.slice Ac s.cap.length cc,.slice Av s.vot.length cv] 32)) (B:=w.heap.size) (by simp) s.ps.length 37;rw[zV]at h;exact h.congr fun i _=>rfl
 have aK:Hid (Below w.heap.size w ((w.alloc (.cells #[.slice Ap s.ps.length cp,.slice Ac s.cap.length cc,.slice Av s.vot.length cv] 32)).alloc (.cells (madeCells #[(.slice none 0 0:Value)] s.ps.length) 37))):=aE.o.alloc aE.o.size _;have aI:=zh (ar.o.alloc (.cells (madeCells #[(.slice none 0 0:Value)] s.ps.length) 37));have v1:=aI.o.c1;have v9:=aI.o.lt;obtain⟨i0,az,aU⟩:=Option.map_eq_some_iff.1 Tw;simp only[Prod.mk.injEq]at aU;obtain⟨aB,aC,aD⟩:=aU;replace az:=zh az;replace aB:=zh aB;replace aC:=zh aC;replace aD:=zh aD;have ay:Hid ((Ah s).length=s.cap.length):=by unfold Hid Ah;simp
 have aW:Hid (∀k p,(Cs (Ah s) k p).length<=300):=fun k p=>by
  unfold Cs;rw[zW];have h1:=zy (fun x:Nat×Nat=>decide (x.1=p)) ((Ah s).take k);have h2:((Ah s).take k).length<=(Ah s).length:=vO _ _;have:=ay.o;omega
 replace hs:=zh hs;replace aJ:=zh aJ;go_enter func42,ntmps42;go_wp2;clear aY u0 u1 u9 v1 v9
 go_loopw [13] (fun i wr=>∃(k:Nat)(v:Nat->Value),k<=s.cap.length/\i=.int .i64 (k:Int)/\Hid (Below w.heap.size w wr)/\Hid (Gr wr w.heap.size (w.heap.size+1) s.ps.length v (Cs (Ah s) k))) (fun i _=>s.cap.length-(intOf i).toNat)
 case atStart=>exact⟨0,_,zS _,rfl,aK,aM⟩
 case round=>
  obtain⟨k,v,hk,rfl,hB,hG⟩:=hrel;clear ar aE aM aK aI
  by_cases hlt:k<s.cap.length
  .obtain ⟨b,o,rfl,aX,aP⟩:=(hs.o.below hB.o).cap (by omega);obtain⟨e1,e2,e3,e4,e5⟩:=aP k hlt;have aQ:=aJ.o s.cap[k] (zO hlt)
   have an:Hid (∀p,Cs (Ah s) (k+1) p=EG (Cs (Ah s) k) s.cap[k].2.1.toNat s.cap[k].1.toNat p):=fun p=>by
    have h:=Qz (E:=Ah s) (k:=k) (by rw[ay.o];exact hlt) p;have h2:(Ah s)[k]'(by rw[ay.o];exact hlt)=(s.cap[k].2.1.toNat,s.cap[k].1.toNat):=by unfold Ah;simp
    rw[h2]at h;exact h
   obtain⟨x,hx⟩:∃x,x=s.cap[k]:=⟨_,rfl⟩;rw[<-hx]at e1 e2 e3 e4 e5 aQ an;obtain⟨coI,aA,g,nn,dd⟩:=x;obtain⟨⟨i1,i2⟩,i3,i4⟩:=aQ;replace i1:0<=coI:=i1;replace i2:coI<s.ps.length:=i2;replace i3:0<=aA:=i3;replace i4:aA<s.ps.length:=i4;obtain⟨co,rfl⟩:∃c:Nat,coI=(c:Int):=⟨coI.toNat,by omega⟩;obtain⟨ho,rfl⟩:∃c:Nat,aA=(c:Int):=⟨aA.toNat,by omega⟩;replace e1:wr.cell? ⟨b,o+k*5,none⟩=some (.int .i64 (co:Int)):=e1;replace e2:wr.cell? ⟨b,o+k*5+1,none⟩=some (.int .i64 (ho:Int)):=e2;replace e3:wr.cell? ⟨b,o+k*5+2,none⟩=some (.bool g):=e3;replace e4:wr.cell? ⟨b,o+k*5+3,none⟩=some (.string nn):=e4;replace e5:wr.cell? ⟨b,o+k*5+4,none⟩=some (.string dd):=e5;replace an:Hid (∀p,Cs (Ah s) (k+1) p=EG (Cs (Ah s) k) ho co p):=fun p=>by have h:=an.o p;simpa using h
   replace hx:=zh hx;have j0:(0:Int)<=(k:Int):=by omega
   have j1:(k:Int)<(s.cap.length:Int):=by omega
   have aq:ho<s.ps.length:=by omega
   have ap:Hid (Bk (wr.alloc (.cells #[.int .i64 (co:Int),.int .i64 (ho:Int),.bool g,.string nn,.string dd] 106)) wr.heap.size 106 [.int .i64 (co:Int),.int .i64 (ho:Int),.bool g,.string nn,.string dd]):=Bk.new wr _ _;have ah:=zh (hB.o.alloc hB.o.size (.cells #[.int .i64 (co:Int),.int .i64 (ho:Int),.bool g,.string nn,.string dd] 106));have aj:=zh (hG.o.alloc (.cells #[.int .i64 (co:Int),.int .i64 (ho:Int),.bool g,.string nn,.string dd] 106));have ax:w.heap.size+1<wr.heap.size:=hG.o.lt;clear aP
   go_wp2_with fail
   obtain⟨W1,aN⟩:∃W,W=wr.alloc (.cells #[.int .i64 (co:Int),.int .i64 (ho:Int),.bool g,.string nn,.string dd] 106):=⟨_,rfl⟩;rw[<-aN]at ap ah aj ⊢;obtain⟨xb,aT⟩:∃b,b=wr.heap.size:=⟨_,rfl⟩;rw[<-aT]at ap ax ⊢;obtain⟨vh,ai⟩:∃x,x=v ho:=⟨_,rfl⟩;have au:=aj.o.hd ho aq;have ak:=zh (aj.o.rows ho aq);rw[<-ai]at au ak
   have aS:Hid (vh.ownBlock≠some xb):=fun e=>by
    have h1:=(hG.o.rows ho aq).lt xb (by rw[<-ai];exact e);omega
   have aR:Hid (vh.ownBlock≠some (w.heap.size+1)):=by rw[ai];exact hG.o.ne ho aq
   replace ai:=zh ai;clear aT;clear aN hB hG e1 e2 e3 e4 e5 aX;have ag:=aj.o.lt;have a0:=ap.o.lt
   have HO:Hid (∀W,Below W1.heap.size W1 W->W.cell? ⟨xb,0,none⟩=some (.int .i64 (co:Int))/\W.cell? ⟨xb,1,none⟩=some (.int .i64 (ho:Int))):=fun W h=>
    ⟨(ap.o.below h).c0,(ap.o.below h).c1⟩
   have aO:=aW.o k ho;have q0:(0:Int)<=(ho:Int):=by omega
   have q1:(ho:Int)<(s.ps.length:Int):=by omega
   refine xR ?_;refine xG (S:=fun W=>W.cell? ⟨xb,0,none⟩=some (.int .i64 (co:Int))/\W.cell? ⟨xb,1,none⟩=some (.int .i64 (ho:Int))) (by kernel_rfl) (HO.o _ (zI _ _).drew) (fun af=>?_);replace af:=zh af;refine tkhD (v:=?_) 0 rfl (af.o) (Or.inl ⟨by rfl,?_⟩) ?_;rotate_left
   . (intro w aa;obtain⟨q1,q2⟩:=aa;go_simp<;>with_reducible rfl)
   try simp only[Act.put,zA]
   refine tkhD (v:=?_) 1 rfl (af.o) (Or.inl ⟨by rfl,?_⟩) ?_;rotate_left
   . (intro w aa;obtain⟨q1,q2⟩:=aa;go_simp<;>with_reducible rfl)
   try simp only[Act.put]
   refine tkhD (v:=?_) 2 rfl (af.o) (Or.inl ⟨by rfl,?_⟩) ?_;rotate_left
   . (intro w aa;obtain⟨q1,q2⟩:=aa;go_simp<;>with_reducible rfl)
   try simp only[Act.put]
   refine tkhD (v:=?_) 3 rfl (af.o) (Or.inl ⟨by rfl,?_⟩) ?_;rotate_left
   . (intro w aa;obtain⟨q1,q2⟩:=aa;go_simp<;>with_reducible rfl)
   try simp only[Act.put]
   refine tkhD (v:=?_) 4 rfl (af.o) (Or.inl ⟨by rfl,?_⟩) ?_;rotate_left
   . (intro w aa;obtain⟨q1,q2⟩:=aa;go_simp<;>with_reducible rfl)
   try simp only[Act.put]
   refine tkhD (v:=?_) 5 rfl (af.o) (Or.inl ⟨by rfl,?_⟩) ?_;rotate_left
   . (intro w aa;obtain⟨q1,q2⟩:=aa;go_simp<;>with_reducible rfl)
   try simp only[Act.put]
   refine tkhD (v:=?_) 6 rfl (af.o) (Or.inl ⟨by rfl,?_⟩) ?_;rotate_left
   . (intro w aa;obtain⟨q1,q2⟩:=aa;go_simp<;>with_reducible rfl)
   try simp only[Act.put]
   refine tkhD (v:=?_) 8 rfl (af.o) (Or.inl ⟨by rfl,?_⟩) ?_;rotate_left
   . (intro w aa;obtain⟨q1,q2⟩:=aa;go_simp<;>with_reducible rfl)
   try simp only[Act.put]
   refine tkhD (v:=?_) 9 rfl (af.o) (Or.inl ⟨by rfl,?_⟩) ?_;rotate_left
   . (intro w aa;obtain⟨q1,q2⟩:=aa;go_simp<;>with_reducible rfl)
   try simp only[Act.put]
   have aL:Hid (Below W1.heap.size W1 W1.drew):=(zI _ W1).drew;have d:Hid (Below W1.heap.size W1 (W1.alloc (.cells #[.int .i64 (co:Int)] 3)).drew):=((zI _ W1).alloc (zB _) _).drew;refine zT (rs:=[7,10]) (by kernel_rfl) (by simp) ?_;refine zK (o:=_) rfl (fun K hK=>?_) ?_
   .have hh:=(aL.o.cell (p:=⟨w.heap.size+1,ho,none⟩) ag).trans au;go_simp;clear hh;refine hK.o _ _ (HO.o _ aL.o) (fun _=>?_);clear hK K
    try simp only[Act.put,zA,zD,zC]
    refine zT (rs:=[10]) (by kernel_rfl) (by simp) ?_;refine zK (o:=_) rfl (fun K hK=>?_) ?_
    .go_simp;refine hK.o _ _ (HO.o _ d.o) (fun _=>?_);clear hK K
     try simp only[Act.put,zA,zD,zC]
     refine zT (rs:=[11]) (by kernel_rfl) (by simp) ?_;refine zK (o:=_) rfl (fun K hK=>?_) ?_
     .rw [zF (by rfl)];refine AH _ _ _ 37 rfl w.heap.size 3 i0 (.int .i64 0) 1 8 underlying37 az.o aB.o aC.o aD.o rfl (by decide) vh (Cs (Ah s) k ho).length (Bv (Cs (Ah s) k ho)) rfl (AC ak.o d.o) ⟨W1.heap.size,0,none⟩ 1 1 [.int .i64 (co:Int)] rfl rfl (BO W1 _ _) (AQ _ rfl) (by omega) (by unfold maxLen;omega) (by omega) (ah.o.trans (d.o.mono ah.o.size)).size ?_;intro vb wb ao ad av;have ae:Hid (Bk wb xb 106 [.int .i64 (co:Int),.int .i64 (ho:Int),.bool g,.string nn,.string dd]):=(ap.o.below d.o).grown ad (fun e=>aS.o e.symm);have al:=zh (ah.o.trans (d.o.mono ah.o.size));have aF:Hid (Below w.heap.size w wb):=al.o.grown ad al.o.size (fun b e=>(ak.o.lt b e).1)
      have aH:Hid (Gr (wb.setCell ⟨w.heap.size+1,ho,none⟩ vb) w.heap.size (w.heap.size+1) s.ps.length (fun i=>if i=ho then vb else v i) (Cs (Ah s) (k+1))):=by
       have h:=((aj.o.alloc (.cells #[.int .i64 (co:Int)] 3)).drew).step (q:=co) aq (u:=vb) (W':=wb) (by rw[<-ai.o];exact ad) ao (by rw[<-ai.o];exact av);exact h.congr fun i _=>(an.o i).symm
      have aG:Hid (Below w.heap.size w (wb.setCell ⟨w.heap.size+1,ho,none⟩ vb)):=aF.o.setCell (p:=⟨w.heap.size+1,ho,none⟩) (wD _) _;have am:=ad.block (w.heap.size+1) (zJ ag d.o.size) (fun e=>aR.o e.symm);have y1:=(zU (a:=⟨w.heap.size+1,ho,none⟩) am).trans ((d.o.cell (p:=⟨w.heap.size+1,ho,none⟩) ag).trans au);have y2:=(yF (a:=⟨w.heap.size+1,ho,none⟩) am).trans ((d.o.frozen (p:=⟨w.heap.size+1,ho,none⟩) ag).trans (aj.o.fr ho));have y3:w.heap.size+1<wb.heap.size:=zJ (zJ ag d.o.size) ad.size
      rcases ao.2 with⟨_,aw⟩|⟨g9,cap9,cur9,rfl,_⟩
      .exact absurd aw (by omega)
      clear ao ad av an d am al;refine hK.o _ _ ⟨ae.o.c0,ae.o.c1⟩ (fun _=>?_);clear hK K
      try simp only[Act.put,zA]
      refine tkhD (v:=?_) 12 rfl (⟨ae.o.c0,ae.o.c1⟩) (Or.inl ⟨by rfl,?_⟩) ?_;rotate_left
      . (intro w aa;obtain⟨q1,q2⟩:=aa;go_simp<;>with_reducible rfl)
      try simp only[Act.put]
      refine zT (rs:=[13]) (by kernel_rfl) (by simp) ?_;refine zK (o:=_) rfl (fun K hK=>?_) ?_
      .go_simp;refine hK.o _ _ ⟨(ae.o.far (p:=⟨w.heap.size+1,ho,none⟩) (vd ax) _).c0,(ae.o.far (p:=⟨w.heap.size+1,ho,none⟩) (vd ax) _).c1⟩ (fun _=>?_);clear hK K
       try simp only[Act.put,zA,zD,zC]
       refine xJ (by kernel_rfl) ?_ _;refine yx ?_;clear y1 y2 y3 HO aO;go_wp2
       go_roundw
       case rel=>exact⟨k+1,_,by omega,by go_num,aG,aH⟩
       case measure=>simp[intOf];omega
      exact zR
     exact zR
    exact zR
   refine zK (o:=_) rfl (fun K hK=>?_) ?_
   .go_simp;refine hK.o _ _ (HO.o _ d.o) (fun _=>?_);clear hK K
    try simp only[Act.put,zA,zD,zC]
    refine zT (rs:=[7]) (by kernel_rfl) (by simp) ?_;refine zK (o:=_) rfl (fun K hK=>?_) ?_
    .have hh:=(d.o.cell (p:=⟨w.heap.size+1,ho,none⟩) ag).trans au;go_simp;clear hh;refine hK.o _ _ (HO.o _ d.o) (fun _=>?_);clear hK K
     try simp only[Act.put,zA,zD,zC]
     refine zT (rs:=[11]) (by kernel_rfl) (by simp) ?_;refine zK (o:=_) rfl (fun K hK=>?_) ?_
     .rw [zF (by rfl)];refine AH _ _ _ 37 rfl w.heap.size 3 i0 (.int .i64 0) 1 8 underlying37 az.o aB.o aC.o aD.o rfl (by decide) vh (Cs (Ah s) k ho).length (Bv (Cs (Ah s) k ho)) rfl (AC ak.o d.o) ⟨W1.heap.size,0,none⟩ 1 1 [.int .i64 (co:Int)] rfl rfl (BO W1 _ _) (AQ _ rfl) (by omega) (by unfold maxLen;omega) (by omega) (ah.o.trans (d.o.mono ah.o.size)).size ?_;intro vb wb ao ad av;have ae:Hid (Bk wb xb 106 [.int .i64 (co:Int),.int .i64 (ho:Int),.bool g,.string nn,.string dd]):=(ap.o.below d.o).grown ad (fun e=>aS.o e.symm);have al:=zh (ah.o.trans (d.o.mono ah.o.size));have aF:Hid (Below w.heap.size w wb):=al.o.grown ad al.o.size (fun b e=>(ak.o.lt b e).1)
      have aH:Hid (Gr (wb.setCell ⟨w.heap.size+1,ho,none⟩ vb) w.heap.size (w.heap.size+1) s.ps.length (fun i=>if i=ho then vb else v i) (Cs (Ah s) (k+1))):=by
       have h:=((aj.o.alloc (.cells #[.int .i64 (co:Int)] 3)).drew).step (q:=co) aq (u:=vb) (W':=wb) (by rw[<-ai.o];exact ad) ao (by rw[<-ai.o];exact av);exact h.congr fun i _=>(an.o i).symm
      have aG:Hid (Below w.heap.size w (wb.setCell ⟨w.heap.size+1,ho,none⟩ vb)):=aF.o.setCell (p:=⟨w.heap.size+1,ho,none⟩) (wD _) _;have am:=ad.block (w.heap.size+1) (zJ ag d.o.size) (fun e=>aR.o e.symm);have y1:=(zU (a:=⟨w.heap.size+1,ho,none⟩) am).trans ((d.o.cell (p:=⟨w.heap.size+1,ho,none⟩) ag).trans au);have y2:=(yF (a:=⟨w.heap.size+1,ho,none⟩) am).trans ((d.o.frozen (p:=⟨w.heap.size+1,ho,none⟩) ag).trans (aj.o.fr ho));have y3:w.heap.size+1<wb.heap.size:=zJ (zJ ag d.o.size) ad.size
      rcases ao.2 with⟨_,aw⟩|⟨g9,cap9,cur9,rfl,_⟩
      .exact absurd aw (by omega)
      clear ao ad av an d am al;refine hK.o _ _ ⟨ae.o.c0,ae.o.c1⟩ (fun _=>?_);clear hK K
      try simp only[Act.put,zA]
      refine tkhD (v:=?_) 12 rfl (⟨ae.o.c0,ae.o.c1⟩) (Or.inl ⟨by rfl,?_⟩) ?_;rotate_left
      . (intro w aa;obtain⟨q1,q2⟩:=aa;go_simp<;>with_reducible rfl)
      try simp only[Act.put]
      refine zT (rs:=[13]) (by kernel_rfl) (by simp) ?_;refine zK (o:=_) rfl (fun K hK=>?_) ?_
      .go_simp;refine hK.o _ _ ⟨(ae.o.far (p:=⟨w.heap.size+1,ho,none⟩) (vd ax) _).c0,(ae.o.far (p:=⟨w.heap.size+1,ho,none⟩) (vd ax) _).c1⟩ (fun _=>?_);clear hK K
       try simp only[Act.put,zA,zD,zC]
       refine xJ (by kernel_rfl) ?_ _;refine yx ?_;clear y1 y2 y3 HO aO;go_wp2
       go_roundw
       case rel=>exact⟨k+1,_,by omega,by go_num,aG,aH⟩
       case measure=>simp[intOf];omega
      exact zR
     exact zR
    exact zR
   exact zR
  obtain rfl:k=s.cap.length:=by omega
  have aV:Hid (Gr wr w.heap.size (w.heap.size+1) s.ps.length v (Cs (Ah s) (Ah s).length)):=by rw[ay.o];exact hG.o
  go_wp2;go_ret;exact⟨⟨_,v,rfl,aV.o⟩,hB.o⟩
end Ci
end
section
open Go.RowKit Go.Shelf
namespace Ci
open Nt
open Classical
theorem Gr.grown{W W':World}{B R n mb:Nat}{v:Nat->Value}{adj:Nat->List Nat}(h:Gr W B R n v adj)(hg:W.grownBy W' (some mb))(hR:R≠mb)(hv:∀i,i<n->(v i).ownBlock≠some mb):Gr W' B R n v adj:=by
 have hb:W'.heap[R]? = W.heap[R]?:=hg.block R h.lt fun e=>hR (Option.some.inj e)
 exact ⟨zJ h.lt hg.size,fun i hi=>(zU (a:=⟨R,i,none⟩) hb).trans (h.hd i hi),fun i=>(yF (a:=⟨R,i,none⟩) hb).trans (h.fr i),fun i hi=>(h.rows i hi).kept hg (by
  cases hu:(v i).ownBlock with
  |none=>exact .inl rfl
  |some b=>exact .inr fun e=>hv i hi (hu.trans e)),h.apart,h.ne,h.lowR⟩
noncomputable def bV(P:Prop):Bool:=@decide P (propDecidable P)
theorem Cu{P:Prop}(h:P):bV P=true:=@zG P (propDecidable P) h
theorem BR{P:Prop}(h:¬P):bV P=false:=@zH P (propDecidable P) h
theorem Yl{P:Prop}(h:bV P=true):P:=@zL P (propDecidable P) h
noncomputable def unv(n:Nat)(V:Nat->Prop):Nat:=((List.range n).filter fun x=>bV (¬V x)).length
theorem Mb{n p:Nat}{V:Nat->Prop}(hp:p<n)(h:¬V p):unv n (fun x=>V x\/x=p)+1<=unv n V :=
 Fh (fun _ _ hx=>Cu fun c=>(Yl hx) (.inl c)) ⟨p,List.mem_range.2 hp,BR fun c=>c (.inr rfl),Cu h⟩
theorem Ty{n:Nat}{V V':Nat->Prop}(h:∀x,V x->V' x):unv n V'<=unv n V:=by
 unfold unv
 have : ∀l:List Nat,(l.filter fun x=>bV (¬V' x)).length<=(l.filter fun x=>bV (¬V x)).length:=by
  intro l
  induction l with
  |nil=>exact zB _
  |cons a l ih=>
   rw[zk,zk]
   by_cases h1:V a
   .rw[BR (fun c=>c (h a h1)),BR (fun c=>c h1)];exact ih
   rw[Cu h1]
   cases bV (¬V' a)
   .simp only[Bool.false_eq_true,if_false,vG,zZ];omega
   simp only[vG,zZ];omega
 exact this _
def NV(w:World)(n mb:Nat)(V:Nat->Prop):Prop:=∃c f,MapK prog 3 κi w mb c f/\c+unv n V<=n/\∀x:Nat,x<n->f (x:Int)=if V x then some (.bool true) else none
structure VEnv(w:World)(ob gb vb R n mb B:Nat)(v:Nat->Value)(adj:Nat->List Nat):Prop where
 o:Bk w ob 98 [.map (some mb)]
 g:Bk w gb 94 [.slice (some ⟨R,0,none⟩) n n]
 f:Bk w vb 145 [.func (.func 90) #[] #[.pointer (some ⟨ob,0,none⟩),.pointer (some ⟨gb,0,none⟩),.pointer (some ⟨vb,0,none⟩)]]
 gr:Gr w B R n v adj
 n1:ob≠mb
 n2:gb≠mb
 n3:vb≠mb
 n4:R≠mb
 n5:∀i,i<n->(v i).ownBlock≠some mb
theorem VEnv.grown{w w':World}{ob gb vb R n mb B:Nat}{v:Nat->Value}{adj:Nat->List Nat}(h:VEnv w ob gb vb R n mb B v adj)(hg:w.grownBy w' (some mb)):VEnv w' ob gb vb R n mb B v adj :=
 ⟨h.o.grown hg fun e=>h.n1 (Option.some.inj e),h.g.grown hg fun e=>h.n2 (Option.some.inj e),h.f.grown hg fun e=>h.n3 (Option.some.inj e),h.gr.grown hg h.n4 h.n5,h.n1,h.n2,h.n3,h.n4,h.n5⟩
theorem OX(w:World):(zeroValue 4).run prog w=.ok (.bool false) w:=by kernel_rfl
def Mc(E:List (Nat×Nat))(n mb p:Nat)(V:Nat->Prop)(w:World)(e:Ending)(w':World):Prop:=e=.returned (.tuple #[])/\w.grownBy w' (some mb)/\∃V',NV w' n mb V'/\Vis E p V V'
theorem JV(E:List (Nat×Nat))(ob gb vb R n mb B:Nat)(v:Nat->Value)(adj:Nat->List Nat)(hn:n<=1000)(p:Nat)(V:Nat->Prop)(w:World)(hp:p<n)(hv:VEnv w ob gb vb R n mb B v adj)(hm:NV w n mb V)(hV:V p):
 Calls prog 90 #[.int .i64 (p:Int),.pointer (some ⟨ob,0,none⟩),.pointer (some ⟨gb,0,none⟩),.pointer (some ⟨vb,0,none⟩)] w (Mc E n mb p V w):=by
 have hP:Hid (∀e,e=.returned (.tuple #[])->Mc E n mb p V w e w):=fun e he=>⟨he,World.grownBy.refl _ _,V,hm,Vis.had hV⟩;obtain⟨c,f,hM,_,hf⟩:=hm;have d:=hM.look FO underlying98 (OX w) (EB underlying3 (a:=(p:Int)) (by omega) (by omega));rw[hf p hp,zF hV]at d;replace d:(Instr.lookup 98 (.map (some mb)) (.int .i64 (p:Int)) false).run prog w=.ok (.bool true) w:=d;have c1:=hv.o.c0;have c2:=hv.o.lt;clear hM hf hv hV;go_enter func90,ntmps90;go_wp2;go_end0;exact hP.o _ rfl
theorem Q0(E:List (Nat×Nat))(ob gb vb R n mb B:Nat)(v:Nat->Value)(adj:Nat->List Nat)(hn:n<=1000)(hE:∀p q,p<n->(q∈adj p<->(p,q)∈E))(aJ:InN n E)(aj:∀p,p<n->(adj p).length<=10000000):
 ∀(N p:Nat)(V:Nat->Prop)(w:World),p<n->VEnv w ob gb vb R n mb B v adj->NV w n mb V->unv n V<=N ->
  Calls prog 90 #[.int .i64 (p:Int),.pointer (some ⟨ob,0,none⟩),.pointer (some ⟨gb,0,none⟩),.pointer (some ⟨vb,0,none⟩)] w (Mc E n mb p V w):=by
 intro N
 induction N with
 |zero=>
  intro p V w hp hv hm hN;exact JV E ob gb vb R n mb B v adj hn p V w hp hv hm (vU fun c=>by have:=Mb hp c;omega)
 |succ N ih=>
  intro p V w hp hv hm hN
  by_cases hV:V p
  .exact JV E ob gb vb R n mb B v adj hn p V w hp hv hm hV
  have aR:=Mb hp hV;have aw:Hid (VisL E p [] V fun x=>V x\/x=p):=VisL.start E p V;obtain⟨c,f,hM,aP,hf⟩:=hm;have ao:=EB underlying3 (a:=(p:Int)) (by omega) (by omega);have aa:=hM.look FO underlying98 (OX w) ao;rw[hf p hp,zE hV]at aa;replace aa:(Instr.lookup 98 (.map (some mb)) (.int .i64 (p:Int)) false).run prog w=.ok (.bool false) w:=aa;obtain⟨w1,aE,au,an⟩:=hM.put GF FO underlying98 (by unfold maxLen;omega) ao (.bool true)
  have av:Hid (NV w1 n mb fun x=>V x\/x=p):=by
   refine⟨_,_,au,?_,fun x hx=>?_⟩
   .rw[hf p hp,zE hV]
    show c+1+_<=n
    omega
   by_cases e:x=p
   .subst e;rw[Be,zF (.inr rfl)]
   rw[Bh (fun h=>e (by omega)),hf x hx]
   by_cases h2:V x
   .rw[zF h2,zF (.inl h2)]
   rw[zE h2,zE fun h=>h.elim h2 e]
  have ae:=zh (hv.grown an);have ai:=zh an;have aK:unv n (fun x=>V x\/x=p)<=N:=by omega
  have c1:=hv.o.c0;have c2:=hv.o.lt;have d1:=ae.o.o.c0;have d2:=ae.o.g.c0;have d3:=ae.o.gr.hd p hp;have d4:=ae.o.gr.lt;have ad:=hv.gr.rows p hp;have aO:=zh hv;have ay:Hid ((v p).ownBlock≠some mb):=hv.n5 p hp;have aQ:=aj p hp;have p0:(0:Int)<=(p:Int):=by omega
  have p1:(p:Int)<(n:Int):=by omega
  have ihH:=zh ih;have ah:Hid (∀q,(p,q)∈E->q∈adj p):=fun q h=>(hE p q hp).2 h;have aC:Hid (∀q,q∈adj p->(p,q)∈E/\q<n):=fun q h=>⟨(hE p q hp).1 h,(aJ _ ((hE p q hp).1 h)).2⟩;clear hM au hf an ao ih aj
  rcases D3 ad with⟨ak,ag⟩|⟨g,cap,aq,_,aM,_,d⟩
  .rw [ak]at d3;have hP:Hid (∀e,e=.returned (.tuple #[])->Mc E n mb p V w e w1):=fun e he=>⟨he,ai.o,_,av.o,aw.o.end fun q h=>by have:=ah.o q h;rw[ag]at this;exact this⟩;clear ad ak ag;go_enter func90,ntmps90;go_wp2
   go_loopw [17] (fun i wr=>i=.int .i64 0/\wr=w1) (fun _ _=>0)
   case atStart=>exact⟨rfl,rfl⟩
   case round=>
    obtain⟨rfl,rfl⟩:=hrel;go_wp2;go_end0;exact hP.o _ rfl
  rw[aq]at d3;rw[aq]at ay;have az:g≠mb:=fun e=>ay.o (by rw[e];rfl);replace d:=zh d;have hP:Hid (∀e wz V',e=.returned (.tuple #[])->w.grownBy wz (some mb)->NV wz n mb V'->VisL E p (adj p) V V'->Mc E n mb p V w e wz):=fun e wz V' h1 h2 h3 h4=>⟨h1,h2,V',h3,h4.end fun q h=>ah.o q h⟩;clear ad aq;go_enter func90,ntmps90;go_wp2
  go_loopw [17] (fun i wr=>∃(j:Nat)(V':Nat->Prop),j<=(adj p).length/\i=.int .i64 (j:Int)/\Hid (w.grownBy wr (some mb))/\Hid (NV wr n mb V')/\Hid (VisL E p ((adj p).take j) V V')) (fun i _=>(adj p).length-(intOf i).toNat)
  case atStart=>exact⟨0,_,zS _,rfl,ai,av,aw⟩
  case round=>
   obtain⟨j,V',hj,rfl,hg,aA,af⟩:=hrel;clear aa aE c1 c2 d1 d2 d3 d4
   by_cases hlt:j<(adj p).length
   .obtain ⟨ap,aD⟩:=aC.o (adj p)[j] (zO hlt);have e1:=(zU (a:=⟨g,j,none⟩) (hg.o.block g aM fun e=>az (Option.some.inj e))).trans (d.o j hlt);have ar:=zh (aO.o.grown hg.o)
    have aG:unv n V'<=N:=zQ (Ty fun x hx=>by
     rcases hx with hx|rfl
     .exact af.o.1 x hx
     exact af.o.2.1) aK
    have aF:Hid ((adj p).take (j+1)=(adj p).take j++[(adj p)[j]]):=zP hlt;obtain⟨q,hq⟩:∃x,x=(adj p)[j]:=⟨_,rfl⟩;rw[<-hq]at ap aD e1 aF;replace hq:=zh hq;have ihq:=zh (ihH.o q V' wr aD ar.o aA.o aG);have am:=zh ap;have d1:=ar.o.f.c0;have d2:=ar.o.f.lt;have j0:(0:Int)<=(j:Int):=by omega
    have j1:(j:Int)<((adj p).length:Int):=by omega
    clear ap aG
    go_wp2_with fail
    refine ihq.o.q fun w2 ⟨ax,V2,aB,al⟩=>?_;have aL:=zh (hg.o.trans ax);have aN:=zh aB;have aH:Hid (VisL E p ((adj p).take (j+1)) V V2):=by rw[aF.o];exact af.o.step am.o al
    clear ax aB al e1 d1 d2;go_wp2
    go_roundw
    case rel=>exact⟨j+1,V2,by omega,by go_num,aL,aN,aH⟩
    case measure=>simp[intOf];omega
   obtain rfl:j=(adj p).length:=by omega
   have aI:Hid (VisL E p (adj p) V V'):=by have h:=af.o;rwa [zu]at h
   go_wp2;go_end0;exact hP.o _ _ V' rfl hg.o aA.o aI.o
def ReachM(w:World)(n mb:Nat)(E:List (Nat×Nat))(p:Nat):Prop:=∃c f,MapK prog 3 κi w mb c f/\∀x:Nat,x<n->f (x:Int)=if Reach E p x then some (.bool true) else none
def Ym(E:List (Nat×Nat))(n p:Nat)(w:World)(e:Ending)(w':World):Prop:=(∃mb,e=.returned (.map (some mb))/\w.heap.size<=mb/\ReachM w' n mb E p)/\Below w.heap.size w w'
theorem Hu(E:List (Nat×Nat))(R n B p:Nat)(v:Nat->Value)(adj:Nat->List Nat)(w:World)(hn:n<=1000)(hE:∀p q,p<n->(q∈adj p<->(p,q)∈E))(ag:InN n E)(ae:∀p,p<n->(adj p).length<=10000000)(hp:p<n)(hG:Gr w B R n v adj):
 Calls prog 44 #[.slice (some ⟨R,0,none⟩) n n,.int .i64 (p:Int)] w (Ym E n p w):=by
 have an:=@run_makeMap prog
 have kv:=zh (fun ob gb vb mb W hv hm=>Q0 E ob gb vb R n mb B v adj hn hE ag ae n p (fun _=>False) W hp hv hm (by
  have:=zy (fun x:Nat=>bV (¬False)) (List.range n);rw[yh]at this;exact this))
 have s1:(w.alloc (.cells #[.slice (some ⟨R,0,none⟩) n n] 94)).heap.size=w.heap.size+1:=by simp
 have s2:((w.alloc (.cells #[.slice (some ⟨R,0,none⟩) n n] 94)).alloc (.map #[] 0)).heap.size=w.heap.size+1+1:=by simp
 have s3:(((w.alloc (.cells #[.slice (some ⟨R,0,none⟩) n n] 94)).alloc (.map #[] 0)).alloc (.cells #[.map (some (w.heap.size+1))] 98)).heap.size=w.heap.size+1+1+1:=by simp
 have g1:Bk (w.alloc (.cells #[.slice (some ⟨R,0,none⟩) n n] 94)) w.heap.size 94 [.slice (some ⟨R,0,none⟩) n n]:=Bk.new w _ _;have m2:MapK prog 3 κi ((w.alloc (.cells #[.slice (some ⟨R,0,none⟩) n n] 94)).alloc (.map #[] 0)) (w.heap.size+1) 0 (fun _=>none):=by have h:=MapK.made (w.alloc (.cells #[.slice (some ⟨R,0,none⟩) n n] 94)) prog 3 κi;rwa [s1]at h
 have o3:Bk (((w.alloc (.cells #[.slice (some ⟨R,0,none⟩) n n] 94)).alloc (.map #[] 0)).alloc (.cells #[.map (some (w.heap.size+1))] 98)) (w.heap.size+1+1) 98 [.map (some (w.heap.size+1))]:=by have h:=Bk.new ((w.alloc (.cells #[.slice (some ⟨R,0,none⟩) n n] 94)).alloc (.map #[] 0)) 98 [.map (some (w.heap.size+1))];rwa [s2]at h
 have f4:Bk ((((w.alloc (.cells #[.slice (some ⟨R,0,none⟩) n n] 94)).alloc (.map #[] 0)).alloc (.cells #[.map (some (w.heap.size+1))] 98)).alloc (.cells #[.nilFunc] 145)) (w.heap.size+1+1+1) 145 [.nilFunc]:=by have h:=Bk.new (((w.alloc (.cells #[.slice (some ⟨R,0,none⟩) n n] 94)).alloc (.map #[] 0)).alloc (.cells #[.map (some (w.heap.size+1))] 98)) 145 [.nilFunc];rwa [s3]at h
 have ai:Hid (Below w.heap.size w ((((w.alloc (.cells #[.slice (some ⟨R,0,none⟩) n n] 94)).alloc (.map #[] 0)).alloc (.cells #[.map (some (w.heap.size+1))] 98)).alloc (.cells #[.nilFunc] 145))):=((((zI _ w).alloc (zB _) _).alloc (by simp) _).alloc (by simp<;>omega) _).alloc (by simp<;>omega) _;have af:Hid (Below w.heap.size w ((((w.alloc (.cells #[.slice (some ⟨R,0,none⟩) n n] 94)).alloc (.map #[] 0)).alloc (.cells #[.map (some (w.heap.size+1))] 98)).alloc (.cells #[.func (.func 90) #[] #[.pointer (some ⟨w.heap.size+1+1,0,none⟩),.pointer (some ⟨w.heap.size,0,none⟩),.pointer (some ⟨w.heap.size+1+1+1,0,none⟩)]] 145))):=((((zI _ w).alloc (zB _) _).alloc (by simp) _).alloc (by simp<;>omega) _).alloc (by simp<;>omega) _;have f5:Bk ((((w.alloc (.cells #[.slice (some ⟨R,0,none⟩) n n] 94)).alloc (.map #[] 0)).alloc (.cells #[.map (some (w.heap.size+1))] 98)).alloc (.cells #[.func (.func 90) #[] #[.pointer (some ⟨w.heap.size+1+1,0,none⟩),.pointer (some ⟨w.heap.size,0,none⟩),.pointer (some ⟨w.heap.size+1+1+1,0,none⟩)]] 145)) (w.heap.size+1+1+1) 145 [.func (.func 90) #[] #[.pointer (some ⟨w.heap.size+1+1,0,none⟩),.pointer (some ⟨w.heap.size,0,none⟩),.pointer (some ⟨w.heap.size+1+1+1,0,none⟩)]]:=by have h:=Bk.new (((w.alloc (.cells #[.slice (some ⟨R,0,none⟩) n n] 94)).alloc (.map #[] 0)).alloc (.cells #[.map (some (w.heap.size+1))] 98)) 145 [.func (.func 90) #[] #[.pointer (some ⟨w.heap.size+1+1,0,none⟩),.pointer (some ⟨w.heap.size,0,none⟩),.pointer (some ⟨w.heap.size+1+1+1,0,none⟩)]];rwa [s3]at h
 have c1:=f4.c0;have c2:=f4.frozen 0;have c3:=f4.lt
 have aa:Hid (VEnv ((((w.alloc (.cells #[.slice (some ⟨R,0,none⟩) n n] 94)).alloc (.map #[] 0)).alloc (.cells #[.map (some (w.heap.size+1))] 98)).alloc (.cells #[.func (.func 90) #[] #[.pointer (some ⟨w.heap.size+1+1,0,none⟩),.pointer (some ⟨w.heap.size,0,none⟩),.pointer (some ⟨w.heap.size+1+1+1,0,none⟩)]] 145)) (w.heap.size+1+1) w.heap.size (w.heap.size+1+1+1) R n (w.heap.size+1) B v adj):=by
  have am:=hG.lt;refine⟨o3.alloc _,((g1.alloc _).alloc _).alloc _,f5,hG.below (af.o),by omega,by omega,by omega,by omega,fun i hi e=>?_⟩;have:=((hG.rows i hi).lt _ e).2;omega
 have ak:Hid (NV ((((w.alloc (.cells #[.slice (some ⟨R,0,none⟩) n n] 94)).alloc (.map #[] 0)).alloc (.cells #[.map (some (w.heap.size+1))] 98)).alloc (.cells #[.func (.func 90) #[] #[.pointer (some ⟨w.heap.size+1+1,0,none⟩),.pointer (some ⟨w.heap.size,0,none⟩),.pointer (some ⟨w.heap.size+1+1+1,0,none⟩)]] 145)) n (w.heap.size+1) fun _=>False):=by
  refine⟨0,_,(m2.alloc _).alloc _,?_,fun x _=>(zE fun h=>h).symm⟩;have:=zy (fun x:Nat=>bV (¬False)) (List.range n);rw[yh]at this
  show 0+((List.range n).filter fun x=>bV (¬False)).length<=n
  omega
 have o5:=aa.o.o.c0;clear s1 s2 s3 g1 m2 o3 f4 f5 ai;replace hG:=zh hG;clear hE ag ae;go_enter func44,ntmps44
 go_wp2_with fail
 refine(kv.o _ _ _ _ _ aa.o ak.o).q fun w6 ⟨ad,V',ah,d⟩=>?_;have o6:=(aa.o.grown ad).o.c0;have o7:=(aa.o.grown ad).o.lt;have aj:Hid (Below w.heap.size w w6):=af.o.grown ad af.o.size (fun b e=>by cases e;exact wD _)
 have al:Hid (ReachM w6 n (w.heap.size+1) E p):=by
  obtain⟨c,f,h1,_,h2⟩:=ah;refine⟨c,f,h1,fun x hx=>?_⟩;rw[h2 x hx]
  by_cases hr:Reach E p x
  .rw[zF hr,zF ((d.reach x).2 hr)]
  rw[zE hr,zE fun h=>hr ((d.reach x).1 h)]
 clear ad ah d o5 c1 c2 c3;go_wp2;go_ret;exact⟨⟨_,rfl,wD _,al.o⟩,aj.o⟩
end Ci
end
end Go.Proofs.YtefmpngjjmddjaaGreatDoor

/- Texts that the proof needs: BndLeast, CirQueue, CirRepeat, CirInts, CirList, CirRanks, BndChk, ShaEffP, ShaEReg, CirThru, CirPhase, CirLists, CirP. -/
import Derived.Test.YtmfjbpcecpgchaaGreatDoorKeE
set_option maxHeartbeats 16000000
set_option maxRecDepth 1000000
namespace Go.Proofs.YtmfjbpcecpgchaaGreatDoor
theorem tkeF{P:Program}{md:Region.Mode}{ops:Array Oper}{Q:Exit->Act->World->Prop}{S:World->Prop}{oi:Oper}{v:Value}{fuel:Nat}{listed:Array Bool}{a:Act}{w:World}(i:Nat)(hi:ops[i]?=some oi)(hS:S w)(hy:YieldsIf P ops S oi v a)(h:wpAnyH P md ops Q S fuel (listed.setIfInBounds i true) (a.put oi.dst v) w)(hs:Region.noSelect ops=true:=by kernel_rfl)(hf:Region.free md ops listed i=true:=by kernel_rfl)(hr:(Region.ready md ops listed).contains i=true:=by kernel_rfl)(hQ:∀c a w,Q (.panic c) (a.put oi.dst v) w->Q (.panic c) a w:=by exact fun _ _ _ h=>h):wpAnyH P md ops Q S (fuel+1) listed a w:=vR hi hs hf hr hQ hy hS h
section
open Go.RowKit Go.Shelf
namespace Bd
open Nt Ci Sh
theorem St(g1 g2:Bool)(n1 d1 n2 d2:ByteArray)(c f:Int)(w:World)(hE:Env w)
 (hk:∀W,Env W->Calls Tryz.prog 32 #[.agg #[.bool g1,.string n1,.string d1],.agg #[.bool g2,.string n2,.string d2]] W fun e w'=>e=.returned (.tuple #[.int .i64 c,.int .i64 f])/\Below W.heap.size W w'):
 Calls Tryz.prog 31 #[.agg #[.bool g1,.string n1,.string d1],.agg #[.bool g2,.string n2,.string d2]] w fun e w'=>e=.returned (.bool (decide (f=0)&&decide (c<=0)))/\Below w.heap.size w w':=by
 have a:Hid (Below w.heap.size w ((w.alloc (.cells #[.bool g1,.string n1,.string d1] 34)).alloc (.cells #[.bool g2,.string n2,.string d2] 34))):=(((zI _ w).alloc (zA _) _).alloc (by simp) _);have d:Hid (Bk ((w.alloc (.cells #[.bool g1,.string n1,.string d1] 34)).alloc (.cells #[.bool g2,.string n2,.string d2] 34)) (w.heap.size) 34 [.bool g1,.string n1,.string d1]):=by have h:=Bk.new w 34 [.bool g1,.string n1,.string d1];have h:=h.alloc (.cells #[.bool g2,.string n2,.string d2] 34); exact h
 have aa:Hid (Bk ((w.alloc (.cells #[.bool g1,.string n1,.string d1] 34)).alloc (.cells #[.bool g2,.string n2,.string d2] 34)) (w.heap.size+1) 34 [.bool g2,.string n2,.string d2]):=by have h:=Bk.new (w.alloc (.cells #[.bool g1,.string n1,.string d1] 34)) 34 [.bool g2,.string n2,.string d2];simp only[zK]at h;exact h
 have k1:=zh (hk ((w.alloc (.cells #[.bool g1,.string n1,.string d1] 34)).alloc (.cells #[.bool g2,.string n2,.string d2] 34)) (hE.below a.o));clear hk;have x0:=d.o.c0;have x1:=d.o.c1;have x2:=d.o.c2;have x9:=d.o.lt;have y0:=aa.o.c0;have y1:=aa.o.c1;have y2:=aa.o.c2;have y9:=aa.o.lt
 by_cases hf:f=0
 .subst hf;rw[show (decide ((0:Int)=0)&&decide (c<=0))=decide (c<=0) by simp]
  cases hc:decide (c<=0) with
  |true=>
   go_enter Tryz.func31,Tryz.ntmps31
   go_wp2_with fail
   refine k1.o.mono ?_;rintro e w3 ⟨rfl,hb⟩;have ad:=zh (a.o.trans (hb.mono a.o.size));have ae:=zh (d.o.below hb);have af:=zh (aa.o.below hb);clear hb a d aa k1 x0 x1 x2 x9 y0 y1 y2 y9;go_wp2;go_ret;exact⟨rfl,ad.o⟩
  |false=>
   go_enter Tryz.func31,Tryz.ntmps31
   go_wp2_with fail
   refine k1.o.mono ?_;rintro e w3 ⟨rfl,hb⟩;have ad:=zh (a.o.trans (hb.mono a.o.size));have ae:=zh (d.o.below hb);have af:=zh (aa.o.below hb);clear hb a d aa k1 x0 x1 x2 x9 y0 y1 y2 y9;go_wp2;go_ret;exact⟨rfl,ad.o⟩
 have m1:(f==0)=false:=by rw[zM];exact hf
 rw[zD hf];replace hf:=zh hf;go_enter Tryz.func31,Tryz.ntmps31
 go_wp2_with fail
 refine k1.o.mono ?_;rintro e w3 ⟨rfl,hb⟩;have ad:=zh (a.o.trans (hb.mono a.o.size));have ae:=zh (d.o.below hb);have af:=zh (aa.o.below hb);clear hb a d aa k1 x0 x1 x2 x9 y0 y1 y2 y9;go_wp2;go_ret;exact⟨rfl,ad.o⟩
theorem Cc(p q:Rat)(hp:ShortQ p)(hq:ShortQ q)(w:World)(hE:Env w):
 Calls Tryz.prog 31 #[.agg #[.bool (rq (p)).1,.string (rq (p)).2.1,.string (rq (p)).2.2],.agg #[.bool (rq (q)).1,.string (rq (q)).2.1,.string (rq (q)).2.2]] w fun e w'=>e=.returned (.bool (decide (p<=q)))/\Below w.heap.size w w':=by
 have h:=St _ _ _ _ _ _ _ _ w hE (fun W hW=>Fz p q hp hq W hW);rw[Og]at h;exact h
theorem PH(g1 g2:Bool)(n1 d1 n2 d2:ByteArray)(c f:Int)(w:World)(hE:Env w)
 (hk:∀W,Env W->Calls Tryz.prog 32 #[.agg #[.bool g1,.string n1,.string d1],.agg #[.bool g2,.string n2,.string d2]] W fun e w'=>e=.returned (.tuple #[.int .i64 c,.int .i64 f])/\Below W.heap.size W w'):
 Calls Tryz.prog 9 #[.agg #[.bool g1,.string n1,.string d1],.agg #[.bool g2,.string n2,.string d2]] w fun e w'=>e=.returned (.bool (decide (f=0)&&decide (c<=0)))/\Below w.heap.size w w':=by
 have a:Hid (Below w.heap.size w ((w.alloc (.cells #[.bool g1,.string n1,.string d1] 34)).alloc (.cells #[.bool g2,.string n2,.string d2] 34))):=(((zI _ w).alloc (zA _) _).alloc (by simp) _);have d:Hid (Bk ((w.alloc (.cells #[.bool g1,.string n1,.string d1] 34)).alloc (.cells #[.bool g2,.string n2,.string d2] 34)) (w.heap.size) 34 [.bool g1,.string n1,.string d1]):=by have h:=Bk.new w 34 [.bool g1,.string n1,.string d1];have h:=h.alloc (.cells #[.bool g2,.string n2,.string d2] 34); exact h
 have aa:Hid (Bk ((w.alloc (.cells #[.bool g1,.string n1,.string d1] 34)).alloc (.cells #[.bool g2,.string n2,.string d2] 34)) (w.heap.size+1) 34 [.bool g2,.string n2,.string d2]):=by have h:=Bk.new (w.alloc (.cells #[.bool g1,.string n1,.string d1] 34)) 34 [.bool g2,.string n2,.string d2];simp only[zK]at h;exact h
 have k1:=zh (hk ((w.alloc (.cells #[.bool g1,.string n1,.string d1] 34)).alloc (.cells #[.bool g2,.string n2,.string d2] 34)) (hE.below a.o));clear hk;have x0:=d.o.c0;have x1:=d.o.c1;have x2:=d.o.c2;have x9:=d.o.lt;have y0:=aa.o.c0;have y1:=aa.o.c1;have y2:=aa.o.c2;have y9:=aa.o.lt
 by_cases hf:f=0
 .subst hf;rw[show (decide ((0:Int)=0)&&decide (c<=0))=decide (c<=0) by simp]
  cases hc:decide (c<=0) with
  |true=>
   go_enter Tryz.func9,Tryz.ntmps9
   go_wp2_with fail
   refine k1.o.mono ?_;rintro e w3 ⟨rfl,hb⟩;have ad:=zh (a.o.trans (hb.mono a.o.size));have ae:=zh (d.o.below hb);have af:=zh (aa.o.below hb);clear hb a d aa k1 x0 x1 x2 x9 y0 y1 y2 y9;go_wp2;go_ret;exact⟨rfl,ad.o⟩
  |false=>
   go_enter Tryz.func9,Tryz.ntmps9
   go_wp2_with fail
   refine k1.o.mono ?_;rintro e w3 ⟨rfl,hb⟩;have ad:=zh (a.o.trans (hb.mono a.o.size));have ae:=zh (d.o.below hb);have af:=zh (aa.o.below hb);clear hb a d aa k1 x0 x1 x2 x9 y0 y1 y2 y9;go_wp2;go_ret;exact⟨rfl,ad.o⟩
 have m1:(f==0)=false:=by rw[zM];exact hf
 rw[zD hf];replace hf:=zh hf;go_enter Tryz.func9,Tryz.ntmps9
 go_wp2_with fail
 refine k1.o.mono ?_;rintro e w3 ⟨rfl,hb⟩;have ad:=zh (a.o.trans (hb.mono a.o.size));have ae:=zh (d.o.below hb);have af:=zh (aa.o.below hb);clear hb a d aa k1 x0 x1 x2 x9 y0 y1 y2 y9;go_wp2;go_ret;exact⟨rfl,ad.o⟩
theorem Hc(p q:Rat)(hp:ShortQ p)(hq:ShortQ q)(w:World)(hE:Env w):
 Calls Tryz.prog 9 #[.agg #[.bool (rq (p)).1,.string (rq (p)).2.1,.string (rq (p)).2.2],.agg #[.bool (rq (q)).1,.string (rq (q)).2.1,.string (rq (q)).2.2]] w fun e w'=>e=.returned (.bool (decide (p<=q)))/\Below w.heap.size w w':=by
 have h:=PH _ _ _ _ _ _ _ _ w hE (fun W hW=>Fz p q hp hq W hW);rw[Og]at h;exact h
end Bd
end
section
open Go.RowKit Go.Shelf
namespace Ci
def QIn(w:World)(B:Nat)(v:Value)(l:List Nat):Prop :=
 (∃A,v=.slice A 0 0/\l=[]/\∀b,v.ownBlock=some b->B<=b/\b<w.heap.size) \/
 ∃g o cap,v=.slice (some ⟨g,o,none⟩) l.length cap/\B<=g/\g<w.heap.size/\l.length<=cap/\(∀j,j<cap->(w.cell? ⟨g,o+j,none⟩).isSome=true)/\(∀j,w.frozen? ⟨g,j,none⟩=false)/\∀j (h:j<l.length),w.cell? ⟨g,o+j,none⟩=some (.int .i64 (l[j]:Int))
section
variable {w w':World} {B:Nat} {v:Value} {l:List Nat} {q:Nat}
theorem QIn.block(h:QIn w B v l){b:Nat}(hb:v.ownBlock=some b):B<=b/\b<w.heap.size:=by
 rcases h with⟨A,rfl,_,h⟩|⟨g,o,cap,rfl,h1,h2,_⟩
 .exact h b hb
 cases hb;exact⟨h1,h2⟩
theorem QIn.grown{row:Option Nat}(h:QIn w B v l)(hg:w.grownBy w' row)(d:v.ownBlock=none\/v.ownBlock≠row):QIn w' B v l:=by
 rcases h with⟨A,rfl,h1,h2⟩|⟨g,o,cap,rfl,h1,h2,h3,h4,h5,h6⟩
 .exact .inl ⟨A,rfl,h1,fun b hb=>⟨(h2 b hb).1,zJ (h2 b hb).2 hg.size⟩⟩
 have hb:w'.heap[g]? = w.heap[g]?:=hg.block g h2 fun e=>by
  rcases d with d|d
  .cases d
  exact d e
 refine .inr ⟨g,o,cap,rfl,h1,zJ h2 hg.size,h3,fun j hj=>?_,fun j=>?_,fun j hj=>?_⟩
 .rw[zR (a:=⟨g,o+j,none⟩) hb];exact h4 j hj
 .rw[yW (a:=⟨g,j,none⟩) hb];exact h5 j
 rw[zR (a:=⟨g,o+j,none⟩) hb];exact h6 j hj
theorem QIn.set(h:QIn w B v l){a:Addr}(ha:v.ownBlock≠some a.block)(u:Value):QIn (w.setCell a u) B v l :=
 h.grown (row:=some a.block) ⟨rfl,rfl,rfl,by simp,fun k _ hk=>zg _ _ _ _ (fun e=>hk (by rw[e]))⟩ (.inr ha)
theorem QIn.alloc(h:QIn w B v l)(o:Obj):QIn (w.alloc o) B v l :=
 h.grown (row:=none) ⟨rfl,rfl,rfl,by simp,fun k hk _=>heap_alloc_old w o hk⟩ (by cases hq:v.ownBlock<;>simp)
theorem QIn.drew(h:QIn w B v l):QIn w.drew B v l:=h
theorem QIn.head{p:Nat}(h:QIn w B v (p::l)):∃g o cap,v=.slice (some ⟨g,o,none⟩) (l.length+1) cap/\B<=g/\g<w.heap.size/\l.length+1<=cap/\w.cell? ⟨g,o,none⟩=some (.int .i64 (p:Int)) /\
 QIn w B (.slice (some (if cap=1 then ⟨g,o,none⟩ else ⟨g,o+1,none⟩)) l.length (cap-1)) l:=by
 rcases h with⟨A,_,h1,_⟩|⟨g,o,cap,rfl,h1,h2,h3,h4,h5,h6⟩
 .cases h1
 refine⟨g,o,cap,rfl,h1,h2,h3,by have:=h6 0 (by simp);simpa using this,?_⟩;simp only[ze]at h3
 by_cases e:cap=1
 .rw[zG e];have hl:l=[]:=List.length_eq_zero_iff.1 (by omega);subst hl;subst e;exact .inl ⟨_,rfl,rfl,fun b hb=>by cases hb;exact⟨h1,h2⟩⟩
 rw[zF e];refine .inr ⟨g,o+1,cap-1,rfl,h1,h2,by omega,fun j hj=>?_,h5,fun j hj=>?_⟩
 .have:=h4 (j+1) (by omega)
  rwa [show o+1+j=o+(j+1) by omega]
 have:=h6 (j+1) (by simp;omega);rw[show o+1+j=o+(j+1) by omega]
 simpa using this
theorem QIn.of_row{e:TypeId}{u:Value}(h:w.ownsRow B e 1 u l.length (l.map fun(q:Nat)=>.int .i64 (q:Int))):QIn w B u l:=by
 rcases h.2 with⟨rfl,h0⟩|⟨g,cap,cur,rfl,hb,hg,h1,_,h3,_⟩
 .exact .inl ⟨none,rfl,List.length_eq_zero_iff.1 h0,fun b hb=>by cases hb⟩
 have a:∀o,(⟨g,0,none⟩:Addr).add o=⟨g,0+o,none⟩:=fun o=>by unfold Addr.add;split<;>simp_all
 refine .inr ⟨g,0,cap,rfl,hb,(Array.getElem?_eq_some_iff.1 hg).1,h1,fun j hj=>?_,fun j=>by simp[World.frozen?,hg],fun j hj=>?_⟩
 .simp only[World.cell?,hg];have:0+j<cur.size:=by omega
  simp at this;simp[this]
 have hc:=h.cells (g:=g) (by simp[Value.ownBlock]) j (.int .i64 (l[j]:Int)) (by simp[hj])
 rwa [a]at hc
theorem QIn.mono{B':Nat}(h:QIn w B v l)(hb:B'<=B):QIn w B' v l:=by
 rcases h with⟨A,rfl,h1,h2⟩|⟨g,o,cap,rfl,h1,h2⟩
 .exact .inl ⟨A,rfl,h1,fun b e=>⟨zS hb (h2 b e).1,(h2 b e).2⟩⟩
 exact .inr ⟨g,o,cap,rfl,zS hb h1,h2⟩
theorem GE{P:Program}(t ty e:TypeId)(i:TypeInfo)(z:Value)(bytes:Nat)(ht:P.underlying t=some (.slice e))(hi:P.info? e=some i)(hz:i.zero=some z)
 (a:i.size=1)(aa:i.bytes=bytes)(aj:z.cells.size=1)(h:QIn w B v l)(hB:B<=w.heap.size)(ad:Addr)(c:Nat)(had:w.cell? ad=some (.int .i64 (q:Int)))
 (hb:(l.length+1)*bytes<=140737488355328)(hm:l.length+1<=maxLen):
 ∃v' w',(Builtin.append_ #[t,t] ty #[v,.slice (some ad) 1 c]).run P w=.ok v' w'/\QIn w' B v' (l++[q])/\w.grownBy w' v.ownBlock/\(v'.ownBlock=v.ownBlock\/v'.ownBlock=some w.heap.size):=by
 have d:∀j u,[(Value.int .i64 (q:Int))][j]? = some u->w.cell? (ad.add j)=some u:=fun j u hj=>by
  match j,hj with
  |0,hj=>simp at hj;subst hj;rw[Addr.add_zero'];exact had
  |j+1,hj=>simp at hj
 have h1:∀u∈[(Value.int .i64 (q:Int))],u.oneCell'=true:=A7 _ rfl;have ak:(l++[q]).map (fun(x:Nat)=>Value.int .i64 (x:Int))=l.map (fun(x:Nat)=>Value.int .i64 (x:Int))++[.int .i64 (q:Int)]:=by simp
 have fin:∀{v':Value} {w':World},w'.ownsRow w.heap.size e 1 v' (l.length+1) (l.map (fun(x:Nat)=>Value.int .i64 (x:Int))++[.int .i64 (q:Int)])->w.grownBy w' none->(v'.ownBlock=none\/v'.ownBlock=some w.heap.size)->QIn w' B v' (l++[q])/\w.grownBy w' v.ownBlock/\(v'.ownBlock=v.ownBlock\/v'.ownBlock=some w.heap.size):=fun {v' w'} ho hg hn=>by
  refine⟨(QIn.of_row (e:=e) (by rw[ak,zX];exact ho)).mono hB,⟨hg.os,hg.tape,hg.output,hg.size,fun k hk _=>hg.block k hk (by simp)⟩,?_⟩
  rcases hn with hn|hn
  .rcases ho.2 with⟨_,h0⟩|⟨g,cap,cur,rfl,_⟩
   .omega
   cases hn
  exact .inr hn
 rcases h with⟨A,rfl,rfl,hA⟩|⟨g,o,cap,rfl,al,am,h3,h4,h5,h6⟩
 .cases A with
  |none=>
   obtain⟨v',w',hr,h2,h3,_⟩:=vE (P:=P) w B t ty e i z 1 bytes ht hi hz a aa aj (by decide) (.slice none 0 0) 0 [] (yU _ _ _ _) ad 1 c [.int .i64 (q:Int)] (by simp) d h1 (by simpa using hm) (by simpa using hb) hB;have h5:=BS (P:=P) t ty e i z 1 bytes ht hi hz a aa (.slice none 0 0) 0 [] (yU w B _ _) ad 1 c [.int .i64 (q:Int)] (by simp) d h1 (by decide) (by simpa using hm) (by simpa using hb) hr;refine⟨v',w',hr,QIn.of_row (e:=e) (by simpa using h2),h3,h5⟩
  |some b=>
   obtain⟨b1,b2⟩:=hA b.block rfl;obtain⟨v',w',hr,r1,r2⟩:=run_append_arg_grows (P:=P) w t ty e i z 1 bytes ht hi hz a aa aj (by decide) b 0 0 [] rfl (fun j u hj=>by simp at hj) ad 1 c [.int .i64 (q:Int)] (by simp) d (by decide) (by simpa using hm) (by simpa using hb);refine⟨v',w',hr,fin (by simpa using r1) r2 ?_⟩
   rcases r1.2 with⟨_,h0⟩|⟨g,cap,cur,rfl,ao,an,_⟩
   .cases h0
   have ai:=run_append_grow (P:=P) w t ty e i z ht hi hz b 0 0 [] (by simp) (fun j u hj=>by simp at hj) ad 1 c [.int .i64 (q:Int)] (by rw[a];simp) d (by decide) (by decide) (growslice_fits (by decide) (by rw[aa];simpa using hb));rw[ai]at hr;simp only[Result.ok.injEq]at hr;rw[<-hr.1];exact .inr rfl
 by_cases hroom:l.length+1<=cap
 .have hr:=run_append_room_cells (P:=P) w t ty e i ht hi g o l.length cap ad 1 c [.int .i64 (q:Int)] (by rw[a];simp) d h1 hroom
   (fun j hj=>by simp only[ws]at hj;rw[a];have:=h4 (l.length+j) (by omega);rwa [show o+l.length*1+j=o+(l.length+j) by omega]) (fun j _=>h5 _)
  rw[a]at hr
  have ag:∀j,j<cap->j≠l.length->(w.setCell ⟨g,o+l.length*1,none⟩ (.int .i64 (q:Int))).cell? ⟨g,o+j,none⟩=w.cell? ⟨g,o+j,none⟩:=fun j _ aq=>
   yl _ _ _ _ (fun e=>by injection e with _ e2;omega)
  have ae:(w.setCell ⟨g,o+l.length*1,none⟩ (.int .i64 (q:Int))).cell? ⟨g,o+l.length,none⟩=some (.int .i64 (q:Int)):=by
   have h7:=h4 l.length (by omega);obtain⟨u,hu⟩:=Option.isSome_iff_exists.1 h7;rw[Nat.mul_one];exact xH _ _ _ hu
  refine⟨_,_,hr,.inr ⟨g,o,cap,by simp,al,by simpa [World.setCells] using am,by simpa using hroom,fun j hj=>?_,fun j=>?_,fun j hj=>?_⟩,?_,.inl rfl⟩
  .by_cases e:j=l.length
   .subst e
    show ((w.setCell _ _).cell? _).isSome=true
    rw[ae];rfl
   show ((w.setCell _ _).cell? _).isSome=true
   rw[ag j hj e];exact h4 j hj
  .show (w.setCell _ _).frozen? _=false
   rw[World.frozen?_setCell];exact h5 j
  .by_cases e:j=l.length
   .subst e
    show (w.setCell _ _).cell? _=_
    rw[ae];simp
   have ah:j<l.length:=by simp at hj;omega
   show (w.setCell _ _).cell? _=_
   rw[ag j (by omega) e,h6 j ah];simp[ah]
  exact⟨rfl,rfl,rfl,by simp[World.setCells],fun k _ hk=>zg _ _ _ _ (fun e=>hk (by rw[e];rfl))⟩
 have af:∀j u,(l.map fun(x:Nat)=>Value.int .i64 (x:Int))[j]? = some u->w.cell? ((⟨g,o,none⟩:Addr).add j)=some u:=fun j u hj=>by
  obtain⟨ah,e⟩:=List.getElem?_eq_some_iff.1 hj;rw[Addr.add_lit,h6 j (by simpa using ah),<-e];simp
 obtain⟨v',w',hr,r1,r2⟩:=run_append_arg_grows (P:=P) w t ty e i z 1 bytes ht hi hz a aa aj (by decide) ⟨g,o,none⟩ l.length cap (l.map fun(x:Nat)=>Value.int .i64 (x:Int)) (by simp) af ad 1 c [.int .i64 (q:Int)] (by simp) d (by omega) hm hb;refine⟨v',w',hr,fin r1 r2 ?_⟩;have ai:=run_append_grow (P:=P) w t ty e i z ht hi hz ⟨g,o,none⟩ l.length cap (l.map fun(x:Nat)=>Value.int .i64 (x:Int)) (by rw[a];simp) af ad 1 c [.int .i64 (q:Int)] (by rw[a];simp) d (by omega) (by simp only[maxLen]at hm;omega) (growslice_fits (by omega) (by rw[aa];exact hb));rw[ai]at hr;simp only[Result.ok.injEq]at hr;rw[<-hr.1];exact .inr rfl
end
theorem QIn.form{w:World}{B:Nat}{v:Value}{l:List Nat}(h:QIn w B v l):∃A c,v=.slice A l.length c:=by
 rcases h with⟨A,rfl,rfl,_⟩|⟨g,o,cap,rfl,_⟩
 .exact⟨A,0,rfl⟩
 exact⟨_,_,rfl⟩
theorem Fw{P:Program}(w:World){ops:Array Oper}{rest:List Oper}{o:Oper}{a:Act}{Q:Exit->Act->World->Prop}(af:o.guard=none)(s x:Operand)(t:TypeId)
 (ho:o.op=.call { callee:=.builtin .append,args:=#[s,x],argTypes:=#[t,t] })
 (B:Nat)(e:TypeId)(i:TypeInfo)(z:Value)(bytes:Nat)(ht:P.underlying t=some (.slice e))(hi:P.info? e=some i)(hz:i.zero=some z)
 (d:i.size=1)(ae:i.bytes=bytes)(ag:z.cells.size=1)
 (v:Value)(l:List Nat)(q:Nat)(hs:a.eval s=v)(h:QIn w B v l)(hB:B<=w.heap.size)(ad:Addr)(c:Nat)(hx:a.eval x=.slice (some ad) 1 c)(had:w.cell? ad=some (.int .i64 (q:Int)))
 (hb:(l.length+1)*bytes<=140737488355328)(hm:l.length+1<=maxLen)
 (hK:∀v' w',QIn w' B v' (l++[q])->w.grownBy w' v.ownBlock->(v'.ownBlock=v.ownBlock\/v'.ownBlock=some w.heap.size)->wpList P ops Q rest (a.put o.dst v') w'):wpList P ops Q (o::rest) a w :=
 wpList_plain af fun _ aa=>by
  obtain⟨v',w',hr,h2,h3,h4⟩:=GE (P:=P) t o.type e i z bytes ht hi hz d ae ag h hB ad c had hb hm;unfold Oper.wp execOp;simp only[ho,resolve,invoke,builtin,Sem.run_bind,vY,vC,vL,wn,vt,hs,hx,hr];exact aa _ _ (hK v' w' h2 h3 h4)
end Ci
end
section
open Go.RowKit Go.Shelf
namespace Ci
open Nt
def Cd(n m:Nat):List Value:=List.replicate m (.int .i64 (-1))++List.replicate (n-m) (.int .i64 0)
theorem Nf(n:Nat):Cd n 0=List.replicate n (.int .i64 0):=by simp[Cd]
theorem PI(n:Nat):Cd n n=List.replicate n (.int .i64 (-1)):=by simp[Cd]
theorem Jz{n m:Nat}(h:m<=n):(Cd n m).length=n:=by simp[Cd];omega
theorem Su{n m j:Nat}(h:j<m):(Cd n m)[j]? = some (.int .i64 (-1)):=by
 unfold Cd;rw[List.getElem?_append_left (by simpa using h),vV,zG h]
theorem Gk{n m c:Nat}(h:m+c<=n):splice (Cd n m) m (List.replicate c (.int .i64 (-1)))=Cd n (m+c):=by
 unfold splice Cd;rw[List.take_left' (by simp),xL,List.drop_append,List.drop_eq_nil_of_le (by simp),yP,xL,List.drop_replicate,<-xw,List.replicate_append_replicate,show n-m-(m+c-m)=n-(m+c) by omega]
theorem Ng(n:Nat):madeCells #[(.int .i64 0:Value)] n=(Cd n 0).toArray:=by
 rw[Nf];unfold madeCells;apply Array.ext
 .simp
 intro i h1 h2;simp;rw[wC];rfl
theorem I3:(Tryz.prog.info? 3).map (fun i=>(i.zero,i.size,i.bytes))=some (some (.int .i64 0),1,8):=by kernel_rfl
theorem Sv:(Tryz.prog.info? 3).map (·.size)=some 1:=by kernel_rfl
theorem Nh(n b:Nat)(w:World)(hn:n<=1000)(hb:w.cell? ⟨b,0,none⟩=some (.int .i64 (-1)))(aq:b<w.heap.size):
 Calls Tryz.prog 60 #[.slice (some ⟨b,0,none⟩) 1 1,.int .i64 (n:Int)] w fun e w'=>(e=.returned (.slice (some ⟨w.heap.size,0,none⟩) n n)/\w'.heap[w.heap.size]? = some (.cells (List.replicate n (.int .i64 (-1))).toArray 3 (0,0)))/\Below w.heap.size w w':=by
 have kb:Hid (∀W,Calls Tryz.prog 109 #[.int .u64 1,.int .u64 (n:Int)] W fun e w'=>e=.returned (.tuple #[.int .u64 0,.int .u64 (n:Int)])/\w'=W):=fun W=>by
  have h:=Tryz.bits_Mul 1 n (by decide) (by omega) W;have h1:(1*n/18446744073709551616:Nat)=0:=by omega
  have h2:(1*n%18446744073709551616:Nat)=n:=by omega
  rw[h1,h2]at h;exact h
 have au:=wV (P:=Tryz.prog) 26 3 (.int .i64 0) 8 Tryz.underlying26 I3 rfl .i64 .i64 n (by omega) (by omega)
 have am:Hid ((w.alloc (.cells (madeCells #[(.int .i64 0:Value)] n) 3)).heap[w.heap.size]? = some (.cells (Cd n 0).toArray 3 (0,0))):=by
  have h:=yM w (.cells (madeCells #[(.int .i64 0:Value)] n) 3);unfold Hid;rw[h,Ng]
 have ai:Hid (Below w.heap.size w (w.alloc (.cells (madeCells #[(.int .i64 0:Value)] n) 3))):=(zI _ w).alloc (zA _) _;have al:Hid ((w.alloc (.cells (madeCells #[(.int .i64 0:Value)] n) 3)).cell? ⟨b,0,none⟩=some (.int .i64 (-1))):=(ai.o.cell (p:=⟨b,0,none⟩) aq).trans hb;have a:Hid ((List.replicate (min 1 n) (Value.int .i64 (-1))).length=min 1 n):=xL;have ag:Hid (∀c,∀v∈List.replicate c (Value.int .i64 (-1)),v.oneCell'=true):=fun c v hv=>by rw[(List.mem_replicate.1 hv).2];rfl
 have aa:Hid (0+(List.replicate (min 1 n) (Value.int .i64 (-1))).length<=(Cd n 0).length):=by
  unfold Hid;rw[Jz (zP _),xL];omega
 have d:Hid (∀j v,(List.replicate (min 1 n) (Value.int .i64 (-1)))[j]? = some v->(w.alloc (.cells (madeCells #[(.int .i64 0:Value)] n) 3)).cell? (Addr.add ⟨b,0,none⟩ j)=some v):=fun j v hj=>by
  rw[vV]at hj
  split at hj
  .have h0:j=0:=by omega
   subst h0;rw[Addr.add_zero',<-Option.some.inj hj];exact al.o
  cases hj
 have ad:Hid (goInt (List.replicate (min 1 n) (Value.int .i64 (-1))).length=.int .i64 ((min 1 n:Nat):Int)):=by
  unfold Hid goInt;rw[xL]
 have ah:Hid (splice (Cd n 0) 0 (List.replicate (min 1 n) (Value.int .i64 (-1)))=Cd n (min 1 n)):=by
  have:=Gk (n:=n) (m:=0) (c:=min 1 n) (by omega)
  rwa [yD]at this
 clear hb;go_enter Tryz.func60,Tryz.ntmps60
 go_wp2_with fail
 refine(kb.o _).mono ?_;rintro e w2 ⟨rfl,rfl⟩
 go_wp2_with (refine wpList_copy_splice rfl _ _ _ _ rfl 3 Tryz.underlying26 Sv _ _ _ _ _ _ rfl rfl w2.heap.size 0 (Cd n 0) 3 am.o (List.replicate (min 1 n) (.int .i64 (-1))) a.o (fun _=>⟨rfl,_,rfl,d.o⟩) aa.o (ag.o _) w2.heap.size w2 ai.o (zA _) ?_;intro w3 ak ae;rw[ah.o]at ak;rw[ad.o];replace ae:=zh ae)
 clear au am ai al a aa d ad ah
 go_loopw [8] (fun m wr=>∃k:Nat,m=.int .i64 (k:Int)/\k<=n/\(0<n->0<k)/\Hid (wr.heap[w2.heap.size]? = some (.cells (Cd n k).toArray 3 (0,0)))/\Hid (Below w2.heap.size w2 wr)) (fun m _=>n-(intOf m).toNat)
 case atStart=>exact⟨min 1 n,rfl,by omega,by omega,ak,ae⟩
 case round=>
  obtain⟨k,rfl,hk,ar,hg,hB⟩:=hrel;clear ak ae
  by_cases hlt:k<n
  .have ax:n≠k:=by omega
   have aw:0<k:=ar (by omega);have a:Hid ((List.replicate (min k (n-k)) (Value.int .i64 (-1))).length=min k (n-k)):=xL
   have af:Hid (k+(List.replicate (min k (n-k)) (Value.int .i64 (-1))).length<=(Cd n k).length):=by
    unfold Hid;rw[Jz (by omega),xL];omega
   have d:Hid (∀j v,(List.replicate (min k (n-k)) (Value.int .i64 (-1)))[j]? = some v->wr.cell? (Addr.add ⟨w2.heap.size,0,none⟩ j)=some v):=fun j v hj=>by
    rw[vV]at hj
    split at hj
    .rename_i hj2;rw[Addr.add_lit,<-Option.some.inj hj,yD];have h1:(Cd n k)[j]? = some (.int .i64 (-1)):=Su (by omega);have h2:=hg.o;simp[World.cell?,h2,h1]
    cases hj
   have ad:Hid (goInt (List.replicate (min k (n-k)) (Value.int .i64 (-1))).length=.int .i64 ((min k (n-k):Nat):Int)):=by
    unfold Hid goInt;rw[xL]
   have ao:Hid (splice (Cd n k) k (List.replicate (min k (n-k)) (Value.int .i64 (-1)))=Cd n (k+min k (n-k))):=Gk (by omega);go_wp2
   go_region_law (refine step_copy_splice rfl (.tmp 41) (.tmp 44) 26 26 rfl 3 Tryz.underlying26 Sv (some ⟨w2.heap.size,k,none⟩) (some ⟨w2.heap.size,0,none⟩) (n-k) (n-k) k n (by simp[Act.eval,Act.put]) (by simp[Act.eval,Act.put]) w2.heap.size k (Cd n k) 3 hg.o (List.replicate (min k (n-k)) (.int .i64 (-1))) a.o (fun _=>⟨rfl,_,rfl,d.o⟩) af.o (ag.o _) w2.heap.size w2 hB.o.drew (zA _) ?_;intro w4 an aj;rw[ao.o]at an;rw[ad.o];replace aj:=zh aj)
   clear a af d ad ao hg hB
   have av:IntKind.i64.wrap ((k:Int)+((min k (n-k):Nat):Int))=((k+min k (n-k):Nat):Int):=by
    rw[IntKind.wrap_i64];omega
   simp only[av];dsimp only[Act.put,List.getElem_toArray,List.getElem_cons_succ,List.getElem_cons_zero];simp only[zB,zC,zE];go_wp2
   go_roundw
   case rel=>exact⟨k+min k (n-k),by go_num,by omega,by omega,an,aj⟩
   case measure=>simp only[intOf];omega
  obtain rfl:k=n:=by omega
  have hG:Hid (wr.heap[w2.heap.size]? = some (.cells (List.replicate k (.int .i64 (-1))).toArray 3 (0,0))):=by
   have h:=hg.o
   rwa [PI]at h
  go_wp2;go_ret;exact⟨⟨rfl,hG.o⟩,hB.o⟩
theorem Uo{a b:List Int}{k:Nat}(h1:k<a.length)(h2:k<b.length)(h:a[k]≠b[k]):decide (a=b)=false:=zD fun e=>h (by simp only[e])
theorem Up{a b:List Int}(hl:a.length=b.length)(h:∀k (h1:k<a.length) (h2:k<b.length),a[k]=b[k]):decide (a=b)=true:=zH (List.ext_getElem hl h)
theorem Sw(A B:Option Addr)(ca cb:Nat)(a b:List Int)(w:World)(hA:InInt w A a)(hB:InInt w B b)(ha:a.length<=140737488355328):
 Calls Tryz.prog 59 #[.slice A a.length ca,.slice B b.length cb] w fun e w'=>e=.returned (.bool (decide (a=b)))/\∃q,w'=w.drewN q:=by
 by_cases hl:a.length=b.length
 .have hN:=zh (fun(k:Nat) (h1:k<a.length) (h2:k<b.length)=>Uo (a:=a) (b:=b) h1 h2);have hY:=zh (Up (a:=a) (b:=b) hl);rw[<-hl];have m1:((a.length:Int) != (a.length:Int))=false:=by simp
  replace hl:=zh hl;replace hA:=zh hA;replace hB:=zh hB;go_enter Tryz.func59,Tryz.ntmps59;go_wp2
  go_loopw [5] (fun i wr=>∃k q:Nat,k<=a.length/\i=.int .i64 (k:Int)/\wr=w.drewN q/\Hid (∀j (h1:j<a.length) (h2:j<b.length),j<k->a[j]=b[j])) (fun i _=>a.length-(intOf i).toNat)
  case atStart=>exact⟨0,0,zP _,rfl,rfl,fun j _ _ h=>absurd h (yJ _)⟩
  case round=>
   obtain⟨k,q,hk,rfl,rfl,hI⟩:=hrel
   by_cases hlt:k<a.length
   .have ag:k<b.length:=by rw[<-hl.o];exact hlt
    obtain⟨b1,o1,rfl,ai,ae⟩:=hA.o (by omega);obtain⟨b2,o2,rfl,aj,af⟩:=hB.o (by omega);have e1:(w.drewN q).cell? ⟨b1,o1+k,none⟩=some (.int .i64 a[k]):=ae k hlt;have e2:(w.drewN q).cell? ⟨b2,o2+k,none⟩=some (.int .i64 b[k]):=af k ag;have ad:=zh (hN.o k hlt ag)
    have aa:Hid (a[k]=b[k]->∀j (h1:j<a.length) (h2:j<b.length),j<k+1->a[j]=b[j]):=fun h j h1 h2 h3=>by
     by_cases e:j=k
     .subst e;exact h
     exact hI.o j h1 h2 (by omega)
    obtain⟨x,hx⟩:∃x,x=a[k]:=⟨_,rfl⟩;obtain⟨y,hy⟩:∃y,y=b[k]:=⟨_,rfl⟩;rw[<-hx]at e1 ad aa;rw[<-hy]at e2 ad aa;have j0:(0:Int)<=(k:Int):=by omega
    have j1:(k:Int)<(a.length:Int):=by omega
    clear ae af hI hx hy;generalize d:w.drewN q=wq at *;replace d:=zh d
    by_cases hxy:x=y
    .have m2:(x != y)=false:=by rw[zZ];exact hxy
     have ah:=zh (aa.o hxy);replace hxy:=zh hxy
     go_wp2_with fail
     go_quiet (fail)
     go_wp2;refine⟨⟨k+1,q+nq,by omega,by go_num,by rw[<-d.o,World.drewN_drewN],ah⟩,by simp only[intOf];omega⟩
    have m2:(x != y)=true:=by rw[yC];exact hxy
    have hG:=zh (ad.o hxy);replace hxy:=zh hxy
    go_wp2_with fail
    go_quiet (fail)
    go_wp2;go_ret;exact⟨Ak hG.o.symm,q+nq,by rw[<-d.o,World.drewN_drewN]⟩
   obtain rfl:k=a.length:=by omega
   have hG:=zh (hY.o fun j h1 h2=>hI.o j h1 h2 h1);generalize d:w.drewN q=wq at *;replace d:=zh d;go_wp2;go_ret;exact⟨Ak hG.o.symm,q,d.o.symm⟩
 have hG:Hid (decide (a=b)=false):=zD fun e=>hl (by rw[e]);have h1:((a.length:Int)==(b.length:Int))=false:=by rw[zM];omega
 have h2:((a.length:Int) != (b.length:Int))=true:=by rw[yC];omega
 have h3:(a.length==b.length)=false:=by rw[zM];exact hl
 clear hA hB;go_enter Tryz.func59,Tryz.ntmps59;go_wp2;go_ret;exact⟨Ak hG.o.symm,0,rfl⟩
def DA(n:Int)(l:List Int)(k:Nat)(h:k<l.length):Prop:=(0<=l[k]/\l[k]<n)/\(0<k->l[k-1]'(by omega)<l[k])
instance (n:Int) (l:List Int) (k:Nat) (h:k<l.length):Decidable (DA n l k h):=inferInstanceAs (Decidable (_/\_))
def BP(n:Int)(l:List Int):Bool:=decide (∀k (h:k<l.length),DA n l k h)
theorem L2{n:Int}{l:List Int}{k:Nat}(h:k<l.length)(hb:¬DA n l k h):BP n l=false:=zD fun hc=>hb (hc k h)
theorem L3{n:Int}{l:List Int}(h:∀k (h:k<l.length),DA n l k h):BP n l=true:=zH h
def toN(F:List Int):List Nat:=F.map Int.toNat
def Ni(s:SR)(F:List Int)(w:World)(e:Ending)(w':World):Prop :=
 (if As s=true/\BP s.ps.length F=true then ∃b,e=.returned (.tuple #[.slice (some ⟨b,0,none⟩) s.ps.length s.ps.length,.int .i64 0])/\w.heap.size<=b/\RoI w' b s.ps.length (rk (Ad s) (toN F))
   else e=.returned (.tuple #[.slice none 0 0,.int .i64 1]))/\Below w.heap.size w w'
theorem DB{n:Int}{l:List Int}(h:BP n l=true){k:Nat}(hk:k<l.length):DA n l k hk:=zk h k hk
theorem Sx{n:Int}{F:List Int}(h:BP n F=true){k:Nat}(hk:k<F.length):∃p:Nat,F[k]=(p:Int)/\(p:Int)<n/\(toN F)[k]? = some p:=by
 have h1:=(DB h hk).1;refine⟨F[k].toNat,by omega,by omega,by simp[toN,hk]⟩
theorem Nj{n:Nat}{F:List Int}(h:BP n F=true){p:Nat}(hp:p∈toN F):p<n:=by
 obtain⟨x,hx,rfl⟩:=List.mem_map.1 hp;obtain⟨k,hk,rfl⟩:=zo hx;have:=(DB h hk).1;omega
theorem Nk{n:Nat}{F:List Int}(h:BP n F=true):(toN F).Pairwise (·<·):=by
 have hs:∀(i j:Nat)(hi:i<F.length)(hj:j<F.length),i<j->F[i]<F[j]:=by
  intro i j hi hj a
  induction j with
  |zero=>omega
  |succ j ih=>
   have h1:=(DB h hj).2 (by omega);simp only[wh]at h1
   by_cases e:i=j
   .subst e;exact h1
   have:=ih (by omega) (by omega);omega
 unfold toN;rw[List.pairwise_map];refine List.pairwise_iff_getElem.2 fun i j hi hj a=>?_;have:=hs i j hi hj a;have:=(DB h hi).1;have:=(DB h hj).1;omega
theorem J0{n:Nat}{F:List Int}(h:BP n F=true):(toN F).Nodup:=(Nk h).imp fun h=>yv h
theorem Sy{W:World}{base:Nat}{e:TypeId}{u:Value}{l:List Nat}(h:W.ownsRow base e 1 u l.length (Ca l)):
 ∃A cap,u=.slice A l.length cap/\∀j (hj:j<l.length),∃g,A=some ⟨g,0,none⟩/\g<W.heap.size/\W.cell? ⟨g,j,none⟩=some (.int .i64 (l[j]:Int)):=by
 rcases Ek h with⟨rfl,rfl⟩|⟨g,cap,rfl,_,h1,_,h2⟩
 .exact⟨none,0,rfl,fun j hj=>absurd hj (yJ _)⟩
 exact⟨_,cap,rfl,fun j hj=>⟨g,rfl,h1,h2 j hj⟩⟩
theorem PJ(A:Option Addr)(c:Nat)(F:List Int)(w:World)(hF:InInt w A F)(h0:∀x,x∈F->0<=x)(hl:F.length<=1000):
 Calls Tryz.prog 62 #[.slice A F.length c] w fun e w'=>(∃v,e=.returned v/\QIn w' w.heap.size v (toN F))/\Below w.heap.size w w':=by
 by_cases h:0<F.length
 .obtain ⟨b,o,rfl,hb,hc⟩:=hF h
  have hz:∀j,j<F.length->w.cell? ⟨b,o+j,none⟩=some (.int .i64 (F.getD j 0)):=fun j hj=>by
   rw[hc j hj];simp[hj]
  refine(Tryz.slices_Clone_int b o F.length c F w (zA _) (by omega) hz).mono ?_;rintro e w' ⟨v,rfl,ho,_,d⟩;refine⟨⟨v,rfl,QIn.of_row (e:=3) ?_⟩,d⟩;have e1:(toN F).length=F.length:=by simp[toN]
  have e2:((toN F).map fun(q:Nat)=>Value.int .i64 (q:Int))=F.map (Value.int .i64):=by
   unfold toN;rw[xh];refine xB fun x hx=>?_;have:=h0 x hx;simp only[Function.comp_apply]
   congr 1
   omega
  rw[e1,e2]
  simpa using ho
 have h1:F=[]:=List.length_eq_zero_iff.1 (by omega);subst h1
 cases A with
 |none=>
  refine(Tryz.slices_Clone_int_nil 0 c w).mono ?_;rintro e w' ⟨rfl,rfl⟩;exact⟨⟨_,rfl,.inl ⟨none,rfl,rfl,fun b hb=>by cases hb⟩⟩,zI _ _⟩
 |some a=>
  refine(Tryz.slices_Clone_int_zero a c w).mono ?_;rintro e w' ⟨v,rfl,ho,_,hb⟩;exact⟨⟨v,rfl,QIn.of_row (e:=3) (by simpa [toN] using ho)⟩,hb⟩
theorem Ob(w:World)(v:Value)(t:TypeId):(w.alloc (.cells #[v] t)).cell? ⟨w.heap.size,0,none⟩=some v:=by
 have:=AX w v t 0 v rfl
 rwa [Addr.add_zero']at this
theorem Uq{n p:Nat}{o:Nat->Int}(hp:p<n)(h:0<=o p):FD n o+1<=n:=by
 have h1:=Ff (f:=fun x=>decide (o x<0)) (g:=fun _=>true) (l:=List.range n) (fun _ _ _=>rfl) ⟨p,List.mem_range.2 hp,zD (by omega),rfl⟩
 have h2:(List.filter (fun _=>true) (List.range n)).length=n:=by
  rw[List.filter_eq_self.2 fun _ _=>rfl,yZ]
 rw[h2]at h1;exact h1
theorem Ur(n:Nat)(o:Nat->Int):FD n o<=n:=by
 have:=yS (fun x=>decide (o x<0)) (List.range n);rw[yZ]at this;exact this
def Bd(n:Nat)(o:Nat->Int):Prop:=∀x,x<n->o x+(FD n o:Int)<n
theorem Bd.start{n:Nat}{F:List Nat}{o:Nat->Int}(h:∀x,o x=if x∈F then 0 else -1):Bd n o:=fun x hx=>by
 by_cases e:x∈F
 .have h1:o x=0:=by rw[h x,zG e]
  have:=Uq hx (by omega:0<=o x);omega
 have h1:o x=-1:=by rw[h x,zF e]
 have:=Ur n o;omega
theorem Bd.set{n p q:Nat}{o:Nat->Int}(h:Bd n o)(hp:p<n)(hq:q<n)(h0:o q<0)(hv:0<=o p):Bd n (FC o q (o p+1)):=fun x hx=>by
 have h1:=KB hq h0 (v:=o p+1) (by omega);have h2:=h p hp;have h3:=h x hx
 by_cases e:x=q
 .rw[e,Bj];omega
 rw[AK e];omega
def ini(F:List Nat)(k:Nat)(x:Nat):Int:=if x∈F.take k then 0 else -1
theorem Sz{F:List Nat}{k p:Nat}(h:F[k]? = some p)(x:Nat):FC (ini F k) p 0 x=ini F (k+1) x:=by
 unfold FC ini;obtain⟨hk,rfl⟩:=List.getElem?_eq_some_iff.1 h
 have hm:x∈F.take (k+1)<->x∈F.take k\/x=F[k]:=by
  rw[zO hk,xO,xq]
 by_cases e:x=F[k]
 .rw[zG e,zG (hm.2 (.inr e))]
 rw[zF e]
 by_cases e2:x∈F.take k
 .rw[zG e2,zG (hm.2 (.inl e2))]
 rw[zF e2,zF fun c=>(hm.1 c).elim e2 e]
theorem Us(F:List Nat)(x:Nat):ini F F.length x=if x∈F then 0 else -1:=by unfold ini;rw[yi]
theorem Fo(s:SR)(Ap Ac Av Af:Option Addr)(cp cc cv cf:Nat)(F:List Int)(w:World)(hE:Env w)(hs:StIn w s Ap Ac Av)(bG:s.cap.length<=300)(hF:InInt w Af F)(bX:F.length<=140737488355328):
 Calls Tryz.prog 23 #[.agg #[.slice Ap s.ps.length cp,.slice Ac s.cap.length cc,.slice Av s.vot.length cv],.slice Af F.length cf] w (Ni s F w):=by
 have bU:=hs.np;have bb:=zh (fun(k:Nat) (h:k<F.length) (hb:¬DA s.ps.length F k h)=>L2 h hb);have ba:=zh (L3 (n:=(s.ps.length:Int)) (l:=F));have ag:Hid (Bk (w.alloc (.cells #[.slice Ap s.ps.length cp,.slice Ac s.cap.length cc,.slice Av s.vot.length cv] 25)) w.heap.size 25 (SC s Ap Ac Av cp cc cv)):=Bk.new w _ _;have ae:Hid (Below w.heap.size w (w.alloc (.cells #[.slice Ap s.ps.length cp,.slice Ac s.cap.length cc,.slice Av s.vot.length cv] 25))):=(zI _ w).alloc (zA _) _;have ai:Hid (∀e w',(¬(As s=true/\BP s.ps.length F=true))->e=.returned (.tuple #[.slice none 0 0,.int .i64 1])->Below w.heap.size w w'->Ni s F w e w'):=fun e w' h1 h2 h3=>⟨by rw[zF h1];exact h2,h3⟩;have u0:=ag.o.c0;have u9:=ag.o.lt;replace hE:=zh hE;replace hs:=zh hs;replace hF:=zh hF;go_enter Tryz.func23,Tryz.ntmps23;go_wp2;obtain⟨wa,bt⟩:∃x,x=w.alloc (.cells #[.slice Ap s.ps.length cp,.slice Ac s.cap.length cc,.slice Av s.vot.length cv] 25):=⟨_,rfl⟩;rw[<-bt]at ag ae ⊢;clear u0 u9 bt
 go_loop [22] (fun i=>∃k:Nat,k<=F.length/\i=.int .i64 (k:Int)/\Hid (∀j (h:j<F.length),j<k->DA s.ps.length F j h)) (fun i=>F.length-(intOf i).toNat)
 case atStart=>exact⟨0,zP _,rfl,fun j _ h=>absurd h (yJ _)⟩
 case round=>
  obtain⟨k,hk,rfl,hI⟩:=hrel
  by_cases hlt:k<F.length
  .obtain ⟨b1,o1,rfl,bE,ah⟩:=(hF.o.below ae.o) (by omega);have e1:=ah k hlt;have e0:Hid (0<k->wa.cell? ⟨b1,o1+(k-1),none⟩=some (.int .i64 (F[k-1]'(by omega)))):=fun h=>ah (k-1) (by omega);have aQ:=zh (bb.o k hlt)
   have a7:Hid (DA s.ps.length F k hlt->∀j (h:j<F.length),j<k+1->DA s.ps.length F j h):=fun h j h1 h3=>by
    by_cases e:j=k
    .subst e;exact h
    exact hI.o j h1 (by omega)
   have aq:Hid (DA s.ps.length F k hlt<->(0<=F[k]/\F[k]<s.ps.length)/\(0<k->F[k-1]'(by omega)<F[k])):=vw;obtain⟨x,hx⟩:∃x,x=F[k]:=⟨_,rfl⟩;rw[<-hx]at e1 aq;have j0:(0:Int)<=(k:Int):=by omega
   have j1:(k:Int)<(F.length:Int):=by omega
   clear ah hI hx;have bI:x<0\/(0<=x/\(s.ps.length:Int)<=x)\/(0<=x/\x<s.ps.length):=by omega
   rcases bI with h1|⟨h1,h2⟩|⟨h1,h2⟩
   .have hG:=zh (aQ.o fun h=>by have:=(aq.o.1 h).1.1;omega);have m1:decide (x<0)=true:=zH h1;go_wp2;go_ret2;exact ai.o _ _ (fun h=>by rw[hG.o]at h;cases h.2) rfl ae.o
   .have hG:=zh (aQ.o fun h=>by have:=(aq.o.1 h).1.2;omega);have m1:decide (x<0)=false:=zD (by omega);have m2:decide ((s.ps.length:Int)<=x)=true:=zH h2;go_wp2;go_ret2;exact ai.o _ _ (fun h=>by rw[hG.o]at h;cases h.2) rfl ae.o
   have m1:decide (x<0)=false:=zD (by omega);have m2:decide ((s.ps.length:Int)<=x)=false:=zD (by omega)
   by_cases hk0:k=0
   .have m3:decide (0<(k:Int))=false:=zD (by omega);have m4:decide (0<k)=false:=zD (by omega);have aO:=zh (a7.o (aq.o.2 ⟨⟨h1,h2⟩,fun h=>by omega⟩));replace hk0:=zh hk0;go_wp2;go_round
    case rel=>exact⟨k+1,by omega,by go_num,aO⟩
    case measure=>simp[intOf];omega
   have m3:decide (0<(k:Int))=true:=zH (by omega);have m4:decide (0<k)=true:=zH (by omega);have e2:=e0.o (by omega);obtain⟨y,hy⟩:∃y,y=F[k-1]'(by omega):=⟨_,rfl⟩;rw[<-hy]at e2;have j2:(0:Int)<=(k:Int)-1:=by omega
   have j3:(k:Int)-1<(F.length:Int):=by omega
   have j4:IntKind.i64.wrap ((k:Int)-1)=(k:Int)-1:=xV _ (by omega);have j5:((k:Int)-1).toNat=k-1:=by omega
   by_cases hxy:y<x
   .have m5:decide (x<=y)=false:=zD (by omega);have aO:=zh (a7.o (aq.o.2 ⟨⟨h1,h2⟩,fun _=>by rw[<-hy];exact hxy⟩));replace hy:=zh hy;go_wp2;go_round
    case rel=>exact⟨k+1,by omega,by go_num,aO⟩
    case measure=>simp[intOf];omega
   have m5:decide (x<=y)=true:=zH (by omega);have hG:=zh (aQ.o fun h=>by have h3:=(aq.o.1 h).2 (by omega);rw[<-hy]at h3;omega);replace hy:=zh hy;go_wp2;go_ret2;exact ai.o _ _ (fun h=>by rw[hG.o]at h;cases h.2) rfl ae.o
  obtain rfl:k=F.length:=by omega
  have hL:=zh (ba.o fun j h=>hI.o j h h);clear bb ba hI;have u0:=ag.o.c0;have u1:=ag.o.c1;have u2:=ag.o.c2;have u9:=ag.o.lt;have ks:=Ef s Ap Ac Av cp cc cv wa (hE.o.below ae.o) (hs.o.below ae.o)
  cases d:As s with
  |false=>
   rw[d]at ks;replace ks:=zh ks;replace d:=zh d
   go_wp2_with fail
   refine ks.o.mono ?_;rintro e w2 ⟨rfl,hb⟩;have av:=zh (ae.o.trans (hb.mono ae.o.size));clear hb;go_wp2;go_ret2;exact ai.o _ _ (fun h=>by rw[d.o]at h;cases h.1) rfl av.o
  |true=>
   rw[d]at ks;replace ks:=zh ks
   have bT:s.ps.length<=60:=by
    unfold As at d;simp only[yI,yV]at d;exact d.2.1
   have bk:Hid (∀x,x∈s.cap->(0<=x.1/\x.1<s.ps.length)/\(0<=x.2.1/\x.2.1<s.ps.length)):=fun x hx=>by
    unfold As at d;simp only[yI]at d;obtain⟨i,hi,rfl⟩:=zo hx;exact⟨(Ex d.2.2.1 hi).1.1,(Ex d.2.2.1 hi).1.2.1⟩
   have aJ:=zh (Ic d);have aM:Hid (∀e w' b,e=.returned (.tuple #[.slice (some ⟨b,0,none⟩) s.ps.length s.ps.length,.int .i64 0])->w.heap.size<=b->RoI w' b s.ps.length (rk (Ad s) (toN F))->Below w.heap.size w w'->Ni s F w e w'):=fun e w' b h1 h2 h3 h4=>⟨by rw[zG ⟨d,hL.o⟩];exact⟨b,h1,h2,h3⟩,h4⟩;replace d:=zh d;clear ai
   go_wp2_with fail
   refine ks.o.mono ?_;rintro e w2 ⟨rfl,hb⟩;have av:=zh (ae.o.trans (hb.mono ae.o.size));have be:=zh (ag.o.below hb);clear hb ks u0 u1 u2 u9 ae ag;have kr:=zh (Nh s.ps.length w2.heap.size (w2.alloc (.cells #[.int .i64 (-1)] 3)) (by omega) (Ob w2 _ _) (by simp));have aw:Hid (Below w.heap.size w (w2.alloc (.cells #[.int .i64 (-1)] 3))):=av.o.alloc av.o.size _;have ax:=zh (be.o.alloc (.cells #[.int .i64 (-1)] 3));obtain⟨b0,aT⟩:∃b,b=(w2.alloc (.cells #[.int .i64 (-1)] 3)).heap.size:=⟨_,rfl⟩;rw[<-aT]at kr;have b3:w.heap.size<b0:=by have:=ax.o.lt;omega
   go_wp2_with fail
   refine kr.o.mono ?_;rintro e w3 ⟨⟨rfl,ak⟩,hb⟩;have a3:=zh (aw.o.trans (hb.mono (by have:=aw.o.size;omega)));have bf:=zh (ax.o.below (by rw[<-aT];exact hb));have aC:Hid (RoI w3 b0 s.ps.length (ini (toN F) 0)):=(RoI.of_row ak).congr fun x _=>by unfold ini;rw[wJ,zF (by simp)]
   clear hb kr aT ak av be aw ax;go_wp2
   go_loopw [56] (fun i wr=>∃(k:Nat)(o:Nat->Int),k<=F.length/\i=.int .i64 (k:Int)/\Hid (Kp [b0] w3 wr)/\Hid (RoI wr b0 s.ps.length o)/\Hid (∀x,o x=ini (toN F) k x)) (fun i _=>F.length-(intOf i).toNat)
   case atStart=>exact⟨0,_,zP _,rfl,Kp.refl _ _,aC,fun _=>rfl⟩
   case round=>
    obtain⟨k,o,hk,rfl,hK,hR,ho⟩:=hrel;clear aC;have ao:Hid (Below w.heap.size w wr):=hK.o.to_below a3.o fun x hx=>by rw[List.mem_singleton.1 hx];omega
    by_cases hlt:k<F.length
    .obtain ⟨p,bp,b2,bq⟩:=Sx hL.o hlt;obtain⟨b1,o1,rfl,bE,ah⟩:=(hF.o.below ao.o) (by omega);have e1:=ah k hlt;rw[bp]at e1;have ar:p<s.ps.length:=by omega
     have e2:=hR.o.cell p ar;have e3:=hR.o.fr p;have aR:=zh (hR.o.set ar 0);have aP:=zh (hK.o.set (a:=⟨b0,p,none⟩) (.int .i64 0) (.inl (List.mem_singleton.2 rfl)))
     have bN:Hid (∀x,FC o p 0 x=ini (toN F) (k+1) x):=fun x=>by
      rw[<-Sz bq x];unfold FC;rw[ho.o x]
     have j0:(0:Int)<=(k:Int):=by omega
     have j1:(k:Int)<(F.length:Int):=by omega
     have j2:(0:Int)<=(p:Int):=by omega
     clear ah bp bq;go_wp2;exact⟨⟨k+1,_,by omega,by go_num,aP,aR,bN⟩,by simp only[intOf];omega⟩
    obtain rfl:k=F.length:=by omega
    have ay:=zh (bf.o.kp hK.o (by simp;omega))
    have aX:Hid (∀x,o x=if x∈toN F then 0 else -1):=fun x=>by
     rw[ho.o x,<-Us];have:(toN F).length=F.length:=by simp[toN]
     rw[this]
    have u0:=ay.o.c0;have u1:=ay.o.c1;have u2:=ay.o.c2;have u9:=ay.o.lt;have ko:=zh (Sf s Ap Ac Av cp cc cv wr (hs.o.below ao.o) (by omega) bG bk.o);have a5:=zh (hF.o.below ao.o);clear ho hK bf a3 hF
    go_wp2_with fail
    refine ko.o.mono ?_;rintro e w4 ⟨⟨R,v,rfl,hG⟩,hb⟩;have bW:=hb.size;have bv:Hid (Below w.heap.size w w4):=ao.o.trans (hb.mono ao.o.size);have aS:=zh (hR.o.below hb);have bQ:b0<w4.heap.size:=aS.o.lt
    have bx:F.length<=1000:=by
     have h1:=Do s.ps.length (toN F) (J0 hL.o) fun x hx=>Nj hL.o hx;have h2:(toN F).length=F.length:=by simp[toN]
     omega
    have a6:=zh (a5.o.below hb)
    have kc:=zh (PJ Af cf F w4 a6.o (fun x hx=>by
     obtain⟨i,hi,rfl⟩:=zo hx;exact(DB hL.o hi).1.1) bx)
    have aL:Hid (b0≠R/\∀i b,i<s.ps.length->(v i).ownBlock=some b->b∉[b0]):=by
     have h1:=hR.o.lt;have h2:=hG.lowR;refine⟨by omega,fun i b hi e hm=>?_⟩;have h3:=((hG.rows i hi).lt b e).1;rw[List.mem_singleton.1 hm]at h3;omega
    have bZ:=hG.lt;replace hG:=zh hG;have af:=zh (Bf.start (E:=Ad s) (J0 hL.o) (fun f hf=>Nj hL.o hf) fun x _=>aX.o x);have ad:=zh (Bd.start (n:=s.ps.length) aX.o);have az:Hid (∀p q,q∈C5 (Ad s) (Ad s).length p<->(p,q)∈Ad s):=fun _ _=>Lq
    have bg:Hid (∀p,(C5 (Ad s) (Ad s).length p).length<=300):=fun p=>by
     unfold C5;rw[zU];have h1:=yS (fun x:Nat×Nat=>decide (x.1=p)) ((Ad s).take (Ad s).length);have h2:((Ad s).take (Ad s).length).length<=(Ad s).length:=List.length_take_le' _ _;have h3:(Ad s).length=s.cap.length:=by simp[Ad]
     omega
    obtain⟨adj,aA⟩:∃a,a=C5 (Ad s) (Ad s).length:=⟨_,rfl⟩;rw[<-aA]at hG az bg;have a4:Hid (∀f,f∈toN F->f<s.ps.length):=fun f hf=>Nj hL.o hf;obtain⟨i0,aW,bu⟩:=Option.map_eq_some_iff.1 I3;simp only[Prod.mk.injEq]at bu;obtain⟨a0,a1,a2⟩:=bu;replace aW:=zh aW;replace a0:=zh a0;replace a1:=zh a1;replace a2:=zh a2;clear hb ko hR ao u0 u1 u2 u9 ay aA aX a5 a6 bk
    go_wp2_with fail
    refine kc.o.mono ?_;rintro e w5 ⟨⟨vq,rfl,hQ⟩,hb⟩;have a9:=zh ((Kp.refl [b0] w4).below hb);have bd:=zh (aS.o.below hb);replace hQ:=zh hQ;clear hb kc aS;go_wp2
    go_loopg [13] ((toN F).length+FD s.ps.length o) (fun m u wr=>∃(o:Nat->Int)(queue:List Nat),m=queue.length+FD s.ps.length o/\Hid (QIn wr w4.heap.size u queue)/\Hid (Kp [b0] w4 wr)/\Hid (RoI wr b0 s.ps.length o)/\Hid (Bf s.ps.length (Ad s) (toN F) (fun _=>False) o queue)/\Hid (Bd s.ps.length o))
    case atStart=>exact⟨_,_,rfl,hQ,a9,bd,af,ad⟩
    case round=>
     clear hQ a9 bd af ad;obtain⟨o1,queue,hm,hQ,hK,hR,af,ad⟩:=hrel
     cases queue with
     |nil=>
      obtain⟨A,c,rfl⟩:=hQ.o.form;have bD:Hid (RoI wr b0 s.ps.length (rk (Ad s) (toN F))):=hR.o.congr fun x hx=>af.o.end a4.o aJ.o hx;have bw:Hid (Below w.heap.size w wr):=hK.o.to_below bv.o fun x hx=>by rw[List.mem_singleton.1 hx];omega
      clear hQ hm;go_wp2;go_ret2;exact aM.o _ _ b0 rfl (by omega) bD.o bw.o
     |cons p queue=>
      obtain⟨g,of,cap,rfl,_,_,bR,bH,_⟩:=hQ.o.head;have ar:=(af.o.pos p (zq ..)).1;have aN:=hG.o.kp hK.o (by simp;exact fun e=>aL.o.1 e.symm) aL.o.2;have d1:=aN.hd p ar;have bS:=aN.lt;obtain⟨A,cr,aZ,ak⟩:=Sy (hG.o.rows p ar);rw[aZ]at d1;have aa:=zh (Bq.start af.o);have bm:Hid (queue.length+FD s.ps.length o1<gk):=by rw[hm];simp only[ze];unfold Hid;omega
      have aH:=zh (fun q (h:(p,q)∈Ad s)=>(az.o p q).2 h);have aK:=zh (fun q (h:q∈adj p)=>(az.o p q).1 h);have bP:=bg.o p
      have aV:Hid (∀j (hj:j<(adj p).length),∃gg,A=some ⟨gg,0,none⟩/\gg<w4.heap.size/\gg∉[b0]/\w4.cell? ⟨gg,j,none⟩=some (.int .i64 ((adj p)[j]:Int))):=fun j hj=>by
       obtain⟨gg,hA,h1,h2⟩:=ak j hj;exact⟨gg,hA,h1,aL.o.2 p gg ar (by rw[aZ,hA];rfl),h2⟩
      have p0:(0:Int)<=(p:Int):=by omega
      have p1:(p:Int)<(s.ps.length:Int):=by omega
      have q0:(0:Int)<(queue.length:Int)+1:=by omega
      clear aN aZ ak hm af;go_wp2
      go_loopw [13,81] (fun u ix wz=>∃(j:Nat)(o2:Nat->Int)(q2:List Nat)(A2:Option Addr)(c2:Nat),j<=(adj p).length/\u=.slice A2 (q2.length+1) c2/\ix=.int .i64 (j:Int)/\Hid (QIn wz w4.heap.size (.slice A2 (q2.length+1) c2) (p::q2))/\Hid (Kp [b0] w4 wz)/\Hid (RoI wz b0 s.ps.length o2)/\Hid (Bq s.ps.length (Ad s) (toN F) p (o1 p) ((adj p).take j) o2 q2)/\Hid (Bd s.ps.length o2)/\Hid (q2.length+FD s.ps.length o2<=queue.length+FD s.ps.length o1)) (fun _ ix _=>(adj p).length-(intOf ix).toNat)
      case atStart=>exact⟨0,o1,queue,_,_,zP _,rfl,rfl,hQ,hK,hR,aa,ad,zA _⟩
      case round=>
       clear hQ hK hR aa ad;obtain⟨j,o2,q2,A2,c2,hj,rfl,rfl,hQ,hK,hR,aa,ad,aD⟩:=hrel
       by_cases hjl:j<(adj p).length
       .obtain ⟨gg,rfl,bJ,bK,bj⟩:=aV.o j hjl;have e1:=(zR (a:=⟨gg,j,none⟩) (hK.o.block gg bJ bK)).trans bj;have aE:=aK.o _ (zN hjl);have aG:(adj p).take (j+1)=(adj p).take j++[(adj p)[j]]:=zO hjl;obtain⟨q,bs⟩:∃x,x=(adj p)[j]:=⟨_,rfl⟩;rw[<-bs]at e1 aE aG;have au:q<s.ps.length:=(aJ.o _ aE).2;have e2:=hR.o.cell q au;have j0:(0:Int)<=(j:Int):=by omega
        have j1:(j:Int)<((adj p).length:Int):=by omega
        have j2:(0:Int)<=(q:Int):=by omega
        have j3:(q:Int)<(s.ps.length:Int):=by omega
        clear bs bj aV
        by_cases hneg:o2 q<0
        .have m1:decide (o2 q<0)=true:=zH hneg;have an:=aa.o.here;have aI:=aa.o.cur;have bO:=aa.o.v0;have e3:=hR.o.cell p an;have e4:=hR.o.fr q;have bi:=ad.o p an;have jw:IntKind.i64.wrap (o2 p+1)=o2 p+1:=xV _ (by omega);have aR:=zh (hR.o.set au (o2 p+1));have aP:=zh (hK.o.set (a:=⟨b0,q,none⟩) (.int .i64 (o2 p+1)) (.inl (List.mem_singleton.2 rfl)));have aY:(Value.slice A2 (q2.length+1) c2).ownBlock≠some b0:=fun e=>by have:=(hQ.o.block e).1;omega
         have bA:=zh (hQ.o.set (a:=⟨b0,q,none⟩) aY (.int .i64 (o2 p+1)))
         have al:Hid (Bq s.ps.length (Ad s) (toN F) p (o1 p) ((adj p).take (j+1)) (FC o2 q (o2 p+1)) (q2++[q])):=by
          rw[aI,aG];exact aa.o.set au aE hneg
         have bh:=zh (ad.o.set an au hneg (by omega));have bM:=KB au hneg (v:=o2 p+1) (by omega)
         have bo:Hid ((q2++[q]).length+FD s.ps.length (FC o2 q (o2 p+1))<=queue.length+FD s.ps.length o1):=by
          have h:=aD.o;unfold Hid;rw[zX,ws];omega
         have bB:=zh (bA.o.alloc (.cells #[.int .i64 (q:Int)] 3));have aC:=zh (aR.o.alloc (.cells #[.int .i64 (q:Int)] 3));have a8:=zh (aP.o.alloc (.cells #[.int .i64 (q:Int)] 3));have aB:w4.heap.size<=((wr.setCell ⟨b0,q,none⟩ (.int .i64 (o2 p+1))).alloc (.cells #[.int .i64 (q:Int)] 3)).heap.size:=a8.o.size
         have am:(p::q2).length+1<=400:=by
          have h1:=Do s.ps.length (p::q2) (List.nodup_cons.2 ⟨aa.o.off,aa.o.inv.nodup⟩) fun x hx=>by
           rcases List.mem_cons.1 hx with rfl|hx
           .exact an
           exact(aa.o.inv.pos x hx).1
          omega
         replace am:=zh am;replace aB:=zh aB;have bF:Hid (∀b,(Value.slice A2 (q2.length+1) c2).ownBlock=some b->b∈[b0]\/w4.heap.size<=b):=fun b e=>.inr (hQ.o.block e).1;have br:=zh aY;clear hR hK hQ bi aI bO bM aY hneg
         have had:Hid (((wr.setCell ⟨b0,q,none⟩ (.int .i64 (o2 p+1))).alloc (.cells #[.int .i64 (q:Int)] 3)).cell? ⟨wr.heap.size,0,none⟩=some (.int .i64 (q:Int))):=by
          have h:=Ob (wr.setCell ⟨b0,q,none⟩ (.int .i64 (o2 p+1))) (.int .i64 (q:Int)) 3
          rwa [World.size_setCell]at h
         go_wp2_with (at_builtin;refine Fw _ rfl _ _ 26 rfl w4.heap.size 3 i0 (.int .i64 0) 8 Tryz.underlying26 aW.o a0.o a1.o a2.o rfl (.slice A2 (q2.length+1) c2) (p::q2) q rfl bB.o aB.o ⟨wr.heap.size,0,none⟩ 1 rfl had.o (by have:=am.o;omega) (by have:=am.o;unfold maxLen;omega) ?_;intro vb wb aF aU bL;have bz:=zh (a8.o.grown aU bF.o);have bC:=zh (aC.o.grown aU br.o);obtain⟨A9,c9,rfl⟩:=aF.form;replace aF:=zh aF;clear aU bL)
         exact⟨⟨j+1,_,q2++[q],A9,c9,by omega,by rw[zX,ws],by go_num,by have h:=aF.o;unfold Hid;simpa using h,bz,bC,al,bh,bo⟩,by simp only[intOf];omega⟩
        have m1:decide (o2 q<0)=false:=zD hneg;have al:=zh (aa.o.skip au (by omega));rw[<-aG]at al;clear aG aE;go_wp2;exact⟨⟨j+1,o2,q2,_,_,by omega,rfl,by go_num,hQ,hK,hR,al,ad,aD⟩,by simp only[intOf];omega⟩
       obtain rfl:j=(adj p).length:=by omega
       have af:=zh (aa.o.end fun q hq=>by rw[yi];exact aH.o q hq);obtain⟨g9,o9,c9,he,_,_,bY,_,aj⟩:=hQ.o.head;injection he with he1 _ he3;subst he1 he3;have bn:q2.length+FD s.ps.length o2<gk:=zl aD.o bm.o;have z1:(1:Int)<=(q2.length:Int)+1:=by omega
       have z2:(q2.length:Int)+1<=(c2:Int):=by omega
       replace ad:=zh ad.o;clear aa hQ aD bm aH aK aV
       by_cases ah:c2=1
       .subst ah;have h0:q2=[]:=List.length_eq_zero_iff.1 (by omega);subst h0;rw[zG rfl]at aj;replace aj:Hid (QIn wr w4.heap.size (.slice (some ⟨g9,o9,none⟩) 0 0) []):=aj;go_wp2
        go_roundg (FD s.ps.length o2)
        case measure=>simpa using bn
        case rel=>exact⟨o2,[],by simp,aj,hK,hR,af,ad⟩
       rw[zF ah]at aj;replace aj:=zh aj;go_wp2
       go_roundg (q2.length+FD s.ps.length o2)
       case measure=>exact bn
       case rel=>exact⟨o2,q2,rfl,aj,hK,hR,af,ad⟩
end Ci
end
section
open Go.RowKit Go.Shelf
attribute [local go_sem] wB
namespace Bd
open Nt Ci Sh
def DM(L:List Lp)(F:List Nat)(ab:Bool)(v:Nat->Rat)(r:Nat->Int)(p:Nat):Prop :=
 (ab=true->(p∈F->1<=v p)/\(p∉F->An p v L<=v p))/\(ab=false->UV L F v r p)
def rnk(R:List Int)(p:Nat):Int:=R.getD p 0
def Chk(s:SR)(F:List Int)(ab:Bool)(V:List Raw)(R:List Int):Prop :=
 (As s=true/\BP s.ps.length F=true)/\V.length=s.ps.length/\R.length=(if ab then 0 else s.ps.length)/\Cl V=true/\∀p,p<s.ps.length->DM (Ae s.cap) (toN F) ab (AY V) (rnk R) p
theorem S8{P:Program}{Q:Exit->Act->World->Prop}{c:Code}{t:Array Value}{ds:List Deferred}{w:World}(h:∀fr,fr=t->c.wp P Q { tmps:=fr,defers:=ds } w):c.wp P Q { tmps:=t,defers:=ds } w:=h t rfl
theorem Gl(q:Rat):((rq q).2.1.toList==[48])=decide (q=0):=(AF q.num.natAbs).trans (decide_eq_decide.2 ⟨fun h=>Rat.num_eq_zero.1 (Int.natAbs_eq_zero.1 h),fun h=>by rw[h];rfl⟩)
def Gd(L:List Lp)(v:Nat->Rat)(r:Nat->Int)(p i:Nat):Prop:=0<=r (L.getD i (0,0,0)).2.1/\r (L.getD i (0,0,0)).2.1<r p/\v (L.getD i (0,0,0)).2.1≠0
def NG{n:Nat}(L:List Lp)(v:Nat->Rat)(r:Nat->Int)(p:Nat)(pre:List (EI n)):Prop:=∀i,i∈pre->¬Gd L v r p i.1
def SG{n:Nat}(L:List Lp)(v:Nat->Rat)(r:Nat->Int)(p:Nat)(pre:List (EI n)):Prop:=∃i,i∈pre/\Gd L v r p i.1
theorem NG.snoc{n:Nat}{L:List Lp}{v:Nat->Rat}{r:Nat->Int}{p:Nat}{pre:List (EI n)}{x:EI n}(h:NG L v r p pre)(hx:¬Gd L v r p x.1):NG L v r p (pre++[x]):=fun i hi=>by
 rcases List.mem_append.1 hi with h1|h1
 .exact h i h1
 rw[List.mem_singleton.1 h1];exact hx
theorem SG.snoc{n:Nat}{L:List Lp}{v:Nat->Rat}{r:Nat->Int}{p:Nat}(pre:List (EI n)){x:EI n}(hx:Gd L v r p x.1):SG L v r p (pre++[x]):=⟨x,List.mem_append.2 (.inr (List.mem_singleton.2 rfl)),hx⟩
theorem I4{s:SR}{i:Nat}(hi:i<s.cap.length):(Ae s.cap).getD i (0,0,0)=(Ae s.cap)[i]'(by unfold Ae;rw[zU];exact hi):=by
 rw[yX,zY (by unfold Ae;rw[zU];exact hi)];rfl
theorem PK{s:SR}(ad:As s=true){v:Nat->Rat}{r:Nat->Int}{p:Nat}(h:∃x,x∈Ae s.cap/\x.1=p/\0<=r x.2.1/\r x.2.1<r p/\v x.2.1≠0):∃i:EI s.cap.length,i∈E4 (p:Int) s.cap s.cap.length/\Gd (Ae s.cap) v r p i.1:=by
 obtain⟨x,hx,h1,h2⟩:=h;obtain⟨i,hi,rfl⟩:=zo hx;have a:i<s.cap.length:=by have:(Ae s.cap).length=s.cap.length:=by { unfold Ae;rw[zU] };omega
 obtain⟨co,ho,Ai,d,aa,_,_⟩:=Du ad (k:=i) a;refine⟨⟨i,a⟩,?_,?_⟩
 .unfold E4;refine List.mem_filterMap.2 ⟨i,List.mem_range.2 a,?_⟩;rw[vy a,zG];rw[d];rw[aa]at h1
  show (co:Int)=(p:Int)
  have:co=p:=h1;rw[this]
 unfold Gd;rw[I4 a];exact h2
theorem PM{s:SR}(ad:As s=true){v:Nat->Rat}{r:Nat->Int}{p k:Nat}{i:EI s.cap.length}(h:i∈E4 (p:Int) s.cap k)(hg:Gd (Ae s.cap) v r p i.1):∃x,x∈Ae s.cap/\x.1=p/\0<=r x.2.1/\r x.2.1<r p/\v x.2.1≠0:=by
 obtain⟨j,hj⟩:=i;unfold E4 at h;obtain⟨j2,_,h2⟩:=List.mem_filterMap.1 h;unfold Gd at hg;rw[I4 hj]at hg;refine⟨_,zN _,?_,hg⟩;obtain⟨co,ho,Ai,a,aa,_,_⟩:=Du ad (k:=j) hj;rw[aa]
 show co=p
 by_cases c:j2<s.cap.length
 .rw [vy c]at h2
  by_cases d:s.cap[j2].1=(p:Int)
  .rw[zG d]at h2
   cases h2
   rw[a]at d;have:(co:Int)=(p:Int):=d;omega
  rw[zF d]at h2;cases h2
 rw[dif_neg c]at h2;cases h2
theorem BM{c:Bool}{A B:Prop}(h:c=false)(hb:B):if c=true then A else B:=by subst h;exact hb
theorem BN{c:Bool}{A B:Prop}(h:c=true)(ha:A):if c=true then A else B:=by subst h;exact ha
theorem Gm(A:Option Addr)(ca:Nat)(l:List Int)(x:Int)(w:World)(hA:InInt w A l)(hl:l.length<=140737488355328):
 Calls Tryz.prog 30 #[.slice A l.length ca,.int .i64 x] w fun e w'=>e=.returned (.bool (decide (x∈l)))/\w'=w:=by
 have k:=Ju A ca l x w hA hl;have hm:=V6 (l:=l) (x:=x);replace hA:=zh hA;generalize Gh l x=i at k hm;rw[<-hm];clear hm;go_enter Tryz.func30,Tryz.ntmps30
 go_wp2_with fail
 refine k.mono ?_;rintro e w1 ⟨rfl,hw⟩;obtain rfl:=hw;clear k;go_wp2;go_ret;exact⟨rfl,rfl⟩
def ChkPost(s:SR)(F:List Int)(ab:Bool)(V:List Raw)(R:List Int)(w:World)(e:Ending)(w':World):Prop:=(∃r,e=.returned (.bool r)/\(r=true<->Chk s F ab V R))/\Below w.heap.size w w'
theorem ChkPost.no{s:SR}{F:List Int}{ab:Bool}{V:List Raw}{R:List Int}{w:World}{w':World}(h:¬Chk s F ab V R)(hb:Below w.heap.size w w'):ChkPost s F ab V R w (.returned (.bool false)) w' :=
 ⟨⟨false,rfl,by simp[h]⟩,hb⟩
theorem ChkPost.no'{s:SR}{F:List Int}{ab:Bool}{V:List Raw}{R:List Int}{w:World}{e:Ending}{w':World}(h:¬Chk s F ab V R)(he:e=.returned (.bool false))(hb:Below w.heap.size w w'):ChkPost s F ab V R w e w':=by
 subst he;exact ChkPost.no h hb
theorem ChkPost.yes{s:SR}{F:List Int}{ab:Bool}{V:List Raw}{R:List Int}{w:World}{e:Ending}{w':World}(h:Chk s F ab V R)(he:e=.returned (.bool true))(hb:Below w.heap.size w w'):ChkPost s F ab V R w e w':=by
 subst he;exact⟨⟨true,rfl,by simp[h]⟩,hb⟩
theorem Nl(s:SR)(Ap Ac Av Af Aw Ar:Option Addr)(cp cc cv cf cw cr:Nat)(F:List Int)(V:List Raw)(R:List Int)(w:World)(hE:Env w)(hs:StIn w s Ap Ac Av)(aO:s.cap.length<=300)(hF:InInt w Af F)(a4:F.length<=140737488355328)
 (hV:InRow w Aw V)(bj:V.length<=140737488355328)(aY:∀k (h:k<V.length),V[k].2.1.size<=140737488355328/\V[k].2.2.size<=140737488355328)(hR:InInt w Ar R)(_hRl:R.length<=140737488355328):
 Calls Tryz.prog 8 #[.agg #[.slice Ap s.ps.length cp,.slice Ac s.cap.length cc,.slice Av s.vot.length cv],.slice Af F.length cf,.agg #[.bool true,.slice Aw V.length cw,.slice Ar R.length cr]] w (ChkPost s F true V R w):=by
 have aD:=zh (fun(h:¬Chk s F true V R) (e:Ending) (w':World) (he:e=.returned (.bool false)) (hb:Below w.heap.size w w')=>ChkPost.no' h he hb);obtain⟨w0,a⟩:∃X,X=((w.alloc (.cells #[.slice Ap s.ps.length cp,.slice Ac s.cap.length cc,.slice Av s.vot.length cv] 25)).alloc (.cells #[.bool true,.slice Aw V.length cw,.slice Ar R.length cr] 29)):=⟨_,rfl⟩;have ai:Hid (Below w.heap.size w w0):=by rw[a];exact((zI _ w).alloc (zA _) _).alloc (by simp) _
 have ax:Hid (Bk w0 w.heap.size 25 [.slice Ap s.ps.length cp,.slice Ac s.cap.length cc,.slice Av s.vot.length cv]):=by rw[a];exact(Bk.new w _ _).alloc _
 have aw:Hid (Bk w0 (w.heap.size+1) 29 [.bool true,.slice Aw V.length cw,.slice Ar R.length cr]):=by
  rw[a];have h:=Bk.new (w.alloc (.cells #[.slice Ap s.ps.length cp,.slice Ac s.cap.length cc,.slice Av s.vot.length cv] 25)) 29 [.bool true,.slice Aw V.length cw,.slice Ar R.length cr];rw[zK]at h;exact h
 have kr:=zh (Fo s Ap Ac Av Af cp cc cv cf F w0 (hE.below ai.o) (hs.below ai.o) aO (hF.below ai.o) a4);have bo:=hs.np;replace hE:=zh hE;replace hs:=zh hs;replace hF:=zh hF;replace hV:=zh hV;replace aY:=zh aY;replace hR:=zh hR;have u0:=ax.o.c0;have u1:=ax.o.c1;have u2:=ax.o.c2;have u9:=ax.o.lt;have v0:=aw.o.c0;have v1:=aw.o.c1;have v2:=aw.o.c2;have v9:=aw.o.lt
 by_cases hg:As s=true/\BP s.ps.length F=true
 rotate_left
 .skip
  have ae:Hid (¬Chk s F true V R):=fun h=>hg h.1;have az:Hid (Calls Tryz.prog 23 #[.agg #[.slice Ap s.ps.length cp,.slice Ac s.cap.length cc,.slice Av s.vot.length cv],.slice Af F.length cf] w0 fun e w'=>e=.returned (.tuple #[.slice none 0 0,.int .i64 1])/\Below w0.heap.size w0 w'):=kr.o.mono fun e w' h=>⟨by have h1:=h.1;rw[zF hg]at h1;exact h1,h.2⟩;replace hg:=zh hg;clear kr;refine(wY (n:=3)).1 ?_;refine xS Tryz.func8 rfl trivial ?_ rfl;simp only[Tryz.ntmps8,yx,ze,yQ,Nat.reduceAdd,Nat.reduceSub,yf,yh,yy,ym,yP,yc];refine wpIn_wide.2 ?_;rw[a]at u0 u1 u2 u9 v0 v1 v2 v9;rw[a]at az;replace a:=zh a
  go_wp2_with fail
  go_step3
  go_wp2_with fail
  refine az.o.mono ?_;rintro e w1 ⟨rfl,hb⟩;rw[<-a.o]at hb;have aq:=zh (ai.o.trans (hb.mono ai.o.size));have aa:=zh (ax.o.below hb);have d:=zh (aw.o.below hb);clear hb az u0 u1 u2 u9 v0 v1 v2 v9;have u0:=aa.o.c0;have u1:=aa.o.c1;have u2:=aa.o.c2;have u9:=aa.o.lt;have v0:=d.o.c0;have v1:=d.o.c1;have v2:=d.o.c2;have v9:=d.o.lt;go_wp2
  (try rw[yA])
  exact⟨_,xE rfl _ _ _,aD.o ae.o _ _ rfl aq.o⟩
 skip
 have az:Hid (Calls Tryz.prog 23 #[.agg #[.slice Ap s.ps.length cp,.slice Ac s.cap.length cc,.slice Av s.vot.length cv],.slice Af F.length cf] w0 fun e w'=>(∃b,e=.returned (.tuple #[.slice (some ⟨b,0,none⟩) s.ps.length s.ps.length,.int .i64 0]))/\Below w0.heap.size w0 w'):=kr.o.mono fun e w' h=>⟨by have h1:=h.1;rw[zG hg]at h1;obtain⟨b,e1,_⟩:=h1;exact⟨b,e1⟩,h.2⟩;replace hg:=zh hg;clear kr;refine(wY (n:=3)).1 ?_;refine xS Tryz.func8 rfl trivial ?_ rfl;simp only[Tryz.ntmps8,yx,ze,yQ,Nat.reduceAdd,Nat.reduceSub,yf,yh,yy,ym,yP,yc];refine wpIn_wide.2 ?_;rw[a]at u0 u1 u2 u9 v0 v1 v2 v9;rw[a]at az;replace a:=zh a
 go_wp2_with fail
 go_step3
 go_wp2_with fail
 refine az.o.mono ?_;rintro e w1 ⟨⟨rb,rfl⟩,hb⟩;rw[<-a.o]at hb;have aq:=zh (ai.o.trans (hb.mono ai.o.size));have aa:=zh (ax.o.below hb);have d:=zh (aw.o.below hb);clear hb az u0 u1 u2 u9 v0 v1 v2 v9 ai ax aw a;have u0:=aa.o.c0;have u1:=aa.o.c1;have u2:=aa.o.c2;have u9:=aa.o.lt;have v0:=d.o.c0;have v1:=d.o.c1;have v2:=d.o.c2;have v9:=d.o.lt;have ks:=Ef s Ap Ac Av cp cc cv w1 (hE.o.below aq.o) (hs.o.below aq.o);rw[hg.o.1]at ks;replace ks:=zh ks
 go_wp2_with fail
 refine ks.o.mono ?_;rintro e w2 ⟨rfl,hb⟩;have ar:=zh (aq.o.trans (hb.mono aq.o.size));have a9:=zh (aa.o.below hb);have aB:=zh (d.o.below hb);clear hb ks u0 u1 u2 u9 v0 v1 v2 v9 aq aa d;have v0:=aB.o.c0;have v1:=aB.o.c1;have v2:=aB.o.c2;have v9:=aB.o.lt
 by_cases hvl:V.length=s.ps.length
 rotate_left
 .skip
  have ae:Hid (¬Chk s F true V R):=fun h=>hvl h.2.1;have m1:((V.length:Int) != (s.ps.length:Int))=true:=by rw[yC];omega
  have m2:(V.length != s.ps.length)=true:=by rw[yC];exact hvl
  replace hvl:=zh hvl;go_wp2
  (try rw[yA])
  exact⟨_,xE rfl _ _ _,aD.o ae.o _ _ rfl ar.o⟩
 skip
 have m1:((V.length:Int) != (s.ps.length:Int))=false:=by rw[zZ];omega
 have m2:(V.length != s.ps.length)=false:=by rw[zZ];exact hvl
 by_cases hrl:R.length=0
 rotate_left
 .skip
  have ae:Hid (¬Chk s F true V R):=fun h=>hrl h.2.2.1;have m3:((R.length:Int) != 0)=true:=by rw[yC];omega
  have m4:(R.length != 0)=true:=by rw[yC];exact hrl
  replace hrl:=zh hrl;replace hvl:=zh hvl;go_wp2
  (try rw[yA])
  exact⟨_,xE rfl _ _ _,aD.o ae.o _ _ rfl ar.o⟩
 skip
 have m3:((R.length:Int) != 0)=false:=by rw[zZ];omega
 have m4:(R.length != 0)=false:=by rw[zZ];exact hrl
 have kf:=Le Aw cw V w2 (hE.o.below ar.o) (hV.o.below ar.o (zA _)) bj aY.o;obtain⟨fb,ak⟩:∃b,b=Cl V:=⟨_,rfl⟩;rw[<-ak]at kf;replace kf:=zh kf;replace hvl:=zh hvl;replace hrl:=zh hrl
 go_wp2_with fail
 refine kf.o.mono ?_;rintro e w3 ⟨rfl,hb⟩;have af:=zh (ar.o.trans (hb.mono ar.o.size));have aX:=zh (a9.o.below hb);have aH:=zh (aB.o.below hb);clear hb kf v0 v1 v2 v9 ar a9 aB m1 m2 m3 m4
 cases fb with
 |false=>
  have ae:Hid (¬Chk s F true V R):=fun h=>by have h1:=h.2.2.2.1;rw[<-ak]at h1;cases h1
  replace ak:=zh ak;go_wp2
  (try rw[yA])
  exact⟨_,xE rfl _ _ _,aD.o ae.o _ _ rfl af.o⟩
 |true=>
  have bb:=Em ak.symm;obtain⟨aI,D,ay⟩:=bb;rw[hvl.o]at aI;obtain⟨val,am⟩:∃f,f=AY V:=⟨_,rfl⟩;rw[<-am]at aI ay;have be:=zh (fun p=>ay.short p);have bk:=zh (fun p=>L0 hg.o.1 aO ay p);have ba:Hid (InRow w Aw (AO s.ps.length val)):=by have h:=hV.o;rw[aI]at h;exact h
  have aS:Hid ((∀p,p<s.ps.length->DM (Ae s.cap) (toN F) true val (rnk R) p)<->Chk s F true V R):=⟨fun h=>⟨hg.o,hvl.o,hrl.o,ak.symm,by rw[<-am];exact h⟩,fun h=>by rw[am];exact h.2.2.2.2⟩;have ksum:Hid (∀(p:Nat) W,Below w3.heap.size w3 W->Calls Tryz.prog 26 #[.int .i64 (p:Int),.pointer (some ⟨w.heap.size,0,none⟩),.pointer (some ⟨w.heap.size+1,0,none⟩)] W fun e w'=>e=.returned (.agg #[.bool (rq (An p val (Ae s.cap))).1,.string (rq (An p val (Ae s.cap))).2.1,.string (rq (An p val (Ae s.cap))).2.2])/\Below W.heap.size W w'):=fun p W h=>Ly s Ap Ac Av Aw Ar cp cc cv cw cr R.length true w.heap.size (w.heap.size+1) p val W (hE.o.below (af.o.trans (h.mono af.o.size))) (hs.o.below (af.o.trans (h.mono af.o.size))).cap hg.o.1 aO (ba.o.below (af.o.trans (h.mono af.o.size)) (zA _)) (fun q _=>be.o q) (fun i hi=>(Kh hg.o.1 ay hi).2.2.2) (fun pre hp=>FN hg.o.1 aO ay pre hp) (aX.o.below h) (by have h2:=aH.o.below h;rw[hvl.o]at h2;exact h2);replace aI:=zh aI;replace ay:=zh ay;replace am:=zh am;replace ak:=zh ak;have v1:=aH.o.c1;have v9:=aH.o.lt
  go_wp2_with fail
  go_step3
  go_wp2_with fail
  rw[hvl.o];have bp:=zh hg.o.1;have bm:s.cap.length<=140737488355328:=by omega
  have a2:Hid (([.bool false,.string ⟨#[49]⟩,.string ⟨#[49]⟩]:List Value)=[.bool (rq (1)).1,.string (rq (1)).2.1,.string (rq (1)).2.2]):=zh (by kernel_rfl);obtain⟨ob,aQ⟩:∃x,x=w3.heap.size:=⟨_,rfl⟩;obtain⟨w4,aE⟩:∃X,X=w3.alloc (.cells #[.bool false,.string ⟨#[49]⟩,.string ⟨#[49]⟩] 34):=⟨_,rfl⟩;have a3:Hid (Below w.heap.size w w4):=by rw[aE];exact af.o.alloc af.o.size _
  have aA:Hid (Below w3.heap.size w3 w4):=by rw[aE];exact(zI _ _).alloc (zA _) _
  have bh:Hid (Bk w4 ob 34 [.bool (rq (1)).1,.string (rq (1)).2.1,.string (rq (1)).2.2]):=by rw[aE,aQ,<-a2.o];exact Bk.new _ _ _
  have bi:=zh (aH.o.below aA.o);have bn:=zh (aX.o.below aA.o);rw[<-aE,<-aQ];replace aE:=zh aE;replace aQ:=zh aQ;clear v1 v9 aH aX af a2;have a5:Hid (∀j,j<0->DM (Ae s.cap) (toN F) true val (rnk R) j):=fun j h=>absurd h (yJ _);have a7:Hid (Below w4.heap.size w4 w4):=zI _ _;have bg:Hid (∀y,y∈F->0<=y):=fun y hy=>by obtain⟨i,hi,rfl⟩:=zo hy;exact(DB hg.o.2 hi).1.1
  have a0:Hid (∀p:Nat,p∈toN F<->(p:Int)∈F):=fun p=>by
   unfold toN;rw[vX];exact⟨fun⟨y,hy,e⟩=>by rw[<-e,Int.toNat_of_nonneg (bg.o y hy)];exact hy,fun h=>⟨(p:Int),h,by simp⟩⟩
  have s1:Hid (ShortQ 1):=⟨zJ (by decide:1<6000) (xA PE),zJ (by decide:1<6000) (xA PE)⟩
  go_loopw [62] (fun ix wr=>∃(p:Nat),p<=s.ps.length/\ix=.int .i64 (p:Int)/\Hid (∀j,j<p->DM (Ae s.cap) (toN F) true val (rnk R) j)/\Hid (Below w4.heap.size w4 wr)) (fun ix _=>s.ps.length-(intOf ix).toNat)
  case atStart=>exact⟨0,zP _,rfl,a5,a7⟩
  case round=>
   obtain⟨p,hp,rfl,hI,hK⟩:=hrel;clear a5 a7;obtain⟨wz,rfl⟩:∃z,z=wr:=⟨_,rfl⟩;have aF:=zh (a3.o.trans (hK.o.mono a3.o.size));have aW:=zh (aA.o.trans (hK.o.mono aA.o.size))
   by_cases hpn:p<s.ps.length
   .skip
    have a6:Hid (DM (Ae s.cap) (toN F) true val (rnk R) p->∀j,j<p+1->DM (Ae s.cap) (toN F) true val (rnk R) j):=fun h j hj=>by
     by_cases c:j=p
     .subst c;exact h
     exact hI.o j (by omega)
    have aT:Hid (¬DM (Ae s.cap) (toN F) true val (rnk R) p->¬Chk s F true V R):=fun h h2=>h (aS.o.2 h2 p hpn);obtain⟨ab,ao,rfl,al,ac⟩:=(ba.o.below aF.o (zA _)) (by rw[Ag];omega);obtain⟨e0,e1,e2⟩:=ac p (by rw[Ag];omega);rw[BE]at e0 e1 e2;clear ac;have j0:(0:Int)<=(p:Int):=by omega
    have j1:(p:Int)<(s.ps.length:Int):=by omega
    obtain⟨w6,an⟩:∃X,X=((wz.alloc (.cells #[.int .i64 (p:Int)] 3)).alloc (.cells #[.bool (rq (val p)).1,.string (rq (val p)).2.1,.string (rq (val p)).2.2] 34)):=⟨_,rfl⟩;obtain⟨ib,aC⟩:∃x,x=wz.heap.size:=⟨_,rfl⟩;have aG:Hid (Below wz.heap.size wz w6):=by rw[an];exact((zI _ wz).alloc (zA _) _).alloc (by simp) _
    have a8:Hid (Bk w6 ib 3 [.int .i64 (p:Int)]):=by rw[an,aC];exact(Bk.new wz _ _).alloc _
    have aN:Hid (Bk w6 (ib+1) 34 [.bool (rq (val p)).1,.string (rq (val p)).2.1,.string (rq (val p)).2.2]):=by
     rw[an,aC];have h:=Bk.new (wz.alloc (.cells #[.int .i64 (p:Int)] 3)) 34 [.bool (rq (val p)).1,.string (rq (val p)).2.1,.string (rq (val p)).2.2];rw[zK]at h;exact h
    have au:=zh (aF.o.trans (aG.o.mono aF.o.size));have ag:=zh (hK.o.trans (aG.o.mono hK.o.size));have aR:=zh (aW.o.trans (aG.o.mono aW.o.size));have aL:=zh (bh.o.below ag.o);have aM:=zh (bi.o.below ag.o);have kc:=Gm Af cf F (p:Int) w6 (hF.o.below au.o) a4;have aZ:=a0.o p;obtain⟨mb,aP⟩:∃b,b=decide ((p:Int)∈F):=⟨_,rfl⟩;rw[<-aP]at kc;rw[an]at kc;replace kc:=zh kc;have bd:Hid (mb=true<->p∈toN F):=by rw[aP,xt];exact aZ.symm
    replace aP:=zh aP;replace an:=zh an;replace aC:=zh aC;replace aZ:=zh aZ
    go_wp2_with fail
    refine kc.o.mono ?_;rintro e wq ⟨rfl,hq⟩;rw[<-an.o]at hq;obtain rfl:=hq
    (try rw[<-aC.o])
    clear kc e0 e1 e2 al hI aW aF hK an aC;have o0:=aL.o.c0;have o1:=aL.o.c1;have o2:=aL.o.c2;have o9:=aL.o.lt;have x0:=aN.o.c0;have x1:=aN.o.c1;have x2:=aN.o.c2;have x9:=aN.o.lt;have y0:=a8.o.c0;have y9:=a8.o.lt;have f0:=aM.o.c0;have f1:=aM.o.c1;have f2:=aM.o.c2;have f9:=aM.o.lt;have aj:Hid (∀W,Below wq.heap.size wq W->Env W):=fun W h=>hE.o.below (au.o.trans (h.mono au.o.size));have ah:Hid (∀W,Below wq.heap.size wq W->Calls Tryz.prog 26 #[.int .i64 (p:Int),.pointer (some ⟨w.heap.size,0,none⟩),.pointer (some ⟨w.heap.size+1,0,none⟩)] W fun e w'=>e=.returned (.agg #[.bool (rq (An p val (Ae s.cap))).1,.string (rq (An p val (Ae s.cap))).2.1,.string (rq (An p val (Ae s.cap))).2.2])/\Below W.heap.size W w'):=fun W h=>ksum.o p W (aR.o.trans (h.mono aR.o.size));have aK:=zh (be.o p);have a1:=zh (bk.o p);obtain⟨sm,aJ⟩:∃q,q=An p val (Ae s.cap):=⟨_,rfl⟩;rw[<-aJ]at ah a1;replace aJ:=zh aJ;obtain⟨v,hv⟩:∃q,q=val p:=⟨_,rfl⟩;rw[<-hv]at x0 x1 x2 aK;replace hv:=zh hv;have HS:Hid (∀W,Below wq.heap.size wq W->(fun W=>W.cell? ⟨ob,0,none⟩=some (.bool (rq (1)).1)/\W.cell? ⟨ob,1,none⟩=some (.string (rq (1)).2.1)/\W.cell? ⟨ob,2,none⟩=some (.string (rq (1)).2.2)/\W.cell? ⟨ib+1,0,none⟩=some (.bool (rq (v)).1)/\W.cell? ⟨ib+1,1,none⟩=some (.string (rq (v)).2.1)/\W.cell? ⟨ib+1,2,none⟩=some (.string (rq (v)).2.2)/\W.cell? ⟨ib,0,none⟩=some (.int .i64 (p:Int))) W):=fun W h=>⟨(h.cell (p:=⟨ob,0,none⟩) o9).trans o0,(h.cell (p:=⟨ob,1,none⟩) o9).trans o1,(h.cell (p:=⟨ob,2,none⟩) o9).trans o2,(h.cell (p:=⟨ib+1,0,none⟩) x9).trans x0,(h.cell (p:=⟨ib+1,1,none⟩) x9).trans x1,(h.cell (p:=⟨ib+1,2,none⟩) x9).trans x2,(h.cell (p:=⟨ib,0,none⟩) y9).trans y0⟩
    go_wp2_with fail
    clear o0 o1 o2 o9 x0 x1 x2 x9 y0 y9 f0 f1 f2 f9
    cases mb with
    |true=>
     have hm:=bd.o.1 rfl
     by_cases h1v:1<=v
     rotate_left
     .skip
      have kl:Hid (∀W,Env W->Calls Tryz.prog 31 #[.agg #[.bool (rq (1)).1,.string (rq (1)).2.1,.string (rq (1)).2.2],.agg #[.bool (rq (v)).1,.string (rq (v)).2.1,.string (rq (v)).2.2]] W fun e w'=>e=.returned (.bool false)/\Below W.heap.size W w'):=fun W hW=>by have h:=Cc (1) (v) s1.o aK.o W hW;rw[zD h1v]at h;exact h
      have ae:Hid (¬Chk s F true V R):=aT.o fun h=>h1v (by rw[hv.o];exact(h.1 rfl).1 hm);replace h1v:=zh h1v;replace hm:=zh hm;refine Be (by kernel_rfl) (by kernel_rfl) ?_
      repeat (
       with_reducible refine wR (fun K hK=>?_)
       first
        |(refine BM (by rfl) ?_;refine hK _ ?_;clear hK K;(try simp only[Act.put,zB,zE,zC]))
        |(refine BN (by rfl) ?_
          go_simp;apply Exists.intro;refine⟨fun W hW=>?_,hK _ ?_⟩
          first
           |(with_reducible exact AC hW (kl.o W (aj.o W hW)))
           |(with_reducible exact AC hW (ah.o W hW))
           |(obtain⟨q1,q2,q3,q4,q5,q6,q7⟩:=HS.o W hW;go_simp<;>with_reducible rfl)
          clear hK K))
      refine wX ?_;intro wf ad;have av:=au.o.trans (ad.mono au.o.size);replace av:=zh av;clear ad HS aj ah;go_wp2
      (try rw[yA])
      exact⟨_,xE rfl _ _ _,aD.o ae.o _ _ rfl av.o⟩
     skip
     have kl:Hid (∀W,Env W->Calls Tryz.prog 31 #[.agg #[.bool (rq (1)).1,.string (rq (1)).2.1,.string (rq (1)).2.2],.agg #[.bool (rq (v)).1,.string (rq (v)).2.1,.string (rq (v)).2.2]] W fun e w'=>e=.returned (.bool true)/\Below W.heap.size W w'):=fun W hW=>by have h:=Cc (1) (v) s1.o aK.o W hW;rw[zH h1v]at h;exact h
     have aU:=zh (a6.o ⟨fun _=>⟨fun _=>by rw[<-hv.o];exact h1v,fun h=>absurd hm h⟩,fun h=>(by cases h)⟩);replace h1v:=zh h1v;replace hm:=zh hm;refine Be (by kernel_rfl) (by kernel_rfl) ?_
     repeat (
      with_reducible refine wR (fun K hK=>?_)
      first
       |(refine BM (by rfl) ?_;refine hK _ ?_;clear hK K;(try simp only[Act.put,zB,zE,zC]))
       |(refine BN (by rfl) ?_
         go_simp;apply Exists.intro;refine⟨fun W hW=>?_,hK _ ?_⟩
         first
          |(with_reducible exact AC hW (kl.o W (aj.o W hW)))
          |(with_reducible exact AC hW (ah.o W hW))
          |(obtain⟨q1,q2,q3,q4,q5,q6,q7⟩:=HS.o W hW;go_simp<;>with_reducible rfl)
         clear hK K))
     refine wX ?_;intro wf ad;have aV:Hid (Below w4.heap.size w4 wf):=ag.o.trans (ad.mono ag.o.size);clear ad HS aj ah;go_wp2;exact⟨⟨p+1,by omega,by go_num,aU,aV⟩,by simp only[intOf];omega⟩
    |false=>
     have hm:p∉toN F:=fun h=>by have:=bd.o.2 h;cases this
     by_cases h1v:sm<=v
     rotate_left
     .skip
      have kl:Hid (∀W,Env W->Calls Tryz.prog 31 #[.agg #[.bool (rq (sm)).1,.string (rq (sm)).2.1,.string (rq (sm)).2.2],.agg #[.bool (rq (v)).1,.string (rq (v)).2.1,.string (rq (v)).2.2]] W fun e w'=>e=.returned (.bool false)/\Below W.heap.size W w'):=fun W hW=>by have h:=Cc (sm) (v) a1.o aK.o W hW;rw[zD h1v]at h;exact h
      have ae:Hid (¬Chk s F true V R):=aT.o fun h=>h1v (by rw[hv.o,aJ.o];exact(h.1 rfl).2 hm);replace h1v:=zh h1v;replace hm:=zh hm;refine Be (by kernel_rfl) (by kernel_rfl) ?_
      repeat (
       with_reducible refine wR (fun K hK=>?_)
       first
        |(refine BM (by rfl) ?_;refine hK _ ?_;clear hK K;(try simp only[Act.put,zB,zE,zC]))
        |(refine BN (by rfl) ?_
          go_simp;apply Exists.intro;refine⟨fun W hW=>?_,hK _ ?_⟩
          first
           |(with_reducible exact AC hW (kl.o W (aj.o W hW)))
           |(with_reducible exact AC hW (ah.o W hW))
           |(obtain⟨q1,q2,q3,q4,q5,q6,q7⟩:=HS.o W hW;go_simp<;>with_reducible rfl)
          clear hK K))
      refine wX ?_;intro wf ad;have av:=au.o.trans (ad.mono au.o.size);replace av:=zh av;clear ad HS aj ah;go_wp2
      (try rw[yA])
      exact⟨_,xE rfl _ _ _,aD.o ae.o _ _ rfl av.o⟩
     skip
     have kl:Hid (∀W,Env W->Calls Tryz.prog 31 #[.agg #[.bool (rq (sm)).1,.string (rq (sm)).2.1,.string (rq (sm)).2.2],.agg #[.bool (rq (v)).1,.string (rq (v)).2.1,.string (rq (v)).2.2]] W fun e w'=>e=.returned (.bool true)/\Below W.heap.size W w'):=fun W hW=>by have h:=Cc (sm) (v) a1.o aK.o W hW;rw[zH h1v]at h;exact h
     have aU:=zh (a6.o ⟨fun _=>⟨fun h=>absurd h hm,fun _=>by rw[<-hv.o,<-aJ.o];exact h1v⟩,fun h=>(by cases h)⟩);replace h1v:=zh h1v;replace hm:=zh hm;refine Be (by kernel_rfl) (by kernel_rfl) ?_
     repeat (
      with_reducible refine wR (fun K hK=>?_)
      first
       |(refine BM (by rfl) ?_;refine hK _ ?_;clear hK K;(try simp only[Act.put,zB,zE,zC]))
       |(refine BN (by rfl) ?_
         go_simp;apply Exists.intro;refine⟨fun W hW=>?_,hK _ ?_⟩
         first
          |(with_reducible exact AC hW (kl.o W (aj.o W hW)))
          |(with_reducible exact AC hW (ah.o W hW))
          |(obtain⟨q1,q2,q3,q4,q5,q6,q7⟩:=HS.o W hW;go_simp<;>with_reducible rfl)
         clear hK K))
     refine wX ?_;intro wf ad;have aV:Hid (Below w4.heap.size w4 wf):=ag.o.trans (ad.mono ag.o.size);clear ad HS aj ah;go_wp2;exact⟨⟨p+1,by omega,by go_num,aU,aV⟩,by simp only[intOf];omega⟩
   skip
   obtain rfl:p=s.ps.length:=by omega
   have bf:=zh (aS.o.1 hI.o);go_wp2
   (try rw[yA])
   exact⟨_,xE rfl _ _ _,ChkPost.yes bf.o rfl aF.o⟩
theorem L4(s:SR)(Ap Ac Av Af Aw Ar:Option Addr)(cp cc cv cf cw cr:Nat)(F:List Int)(V:List Raw)(R:List Int)(w:World)(hE:Env w)(hs:StIn w s Ap Ac Av)(bb:s.cap.length<=300)(hF:InInt w Af F)(bF:F.length<=140737488355328)
 (hV:InRow w Aw V)(ca:V.length<=140737488355328)(bn:∀k (h:k<V.length),V[k].2.1.size<=140737488355328/\V[k].2.2.size<=140737488355328)(hR:InInt w Ar R)(ci:R.length<=140737488355328):
 Calls Tryz.prog 8 #[.agg #[.slice Ap s.ps.length cp,.slice Ac s.cap.length cc,.slice Av s.vot.length cv],.slice Af F.length cf,.agg #[.bool false,.slice Aw V.length cw,.slice Ar R.length cr]] w (ChkPost s F false V R w):=by
 have au:=zh (fun(h:¬Chk s F false V R) (e:Ending) (w':World) (he:e=.returned (.bool false)) (hb:Below w.heap.size w w')=>ChkPost.no' h he hb);obtain⟨w0,ah⟩:∃X,X=((w.alloc (.cells #[.slice Ap s.ps.length cp,.slice Ac s.cap.length cc,.slice Av s.vot.length cv] 25)).alloc (.cells #[.bool false,.slice Aw V.length cw,.slice Ar R.length cr] 29)):=⟨_,rfl⟩;have aw:Hid (Below w.heap.size w w0):=by rw[ah];exact((zI _ w).alloc (zA _) _).alloc (by simp) _
 have aH:Hid (Bk w0 w.heap.size 25 [.slice Ap s.ps.length cp,.slice Ac s.cap.length cc,.slice Av s.vot.length cv]):=by rw[ah];exact(Bk.new w _ _).alloc _
 have aG:Hid (Bk w0 (w.heap.size+1) 29 [.bool false,.slice Aw V.length cw,.slice Ar R.length cr]):=by
  rw[ah];have h:=Bk.new (w.alloc (.cells #[.slice Ap s.ps.length cp,.slice Ac s.cap.length cc,.slice Av s.vot.length cv] 25)) 29 [.bool false,.slice Aw V.length cw,.slice Ar R.length cr];rw[zK]at h;exact h
 have kr:=zh (Fo s Ap Ac Av Af cp cc cv cf F w0 (hE.below aw.o) (hs.below aw.o) bb (hF.below aw.o) bF);have cl:=hs.np;replace hE:=zh hE;replace hs:=zh hs;replace hF:=zh hF;replace hV:=zh hV;replace bn:=zh bn;replace hR:=zh hR;have u0:=aH.o.c0;have u1:=aH.o.c1;have u2:=aH.o.c2;have u9:=aH.o.lt;have v0:=aG.o.c0;have v1:=aG.o.c1;have v2:=aG.o.c2;have v9:=aG.o.lt
 by_cases hg:As s=true/\BP s.ps.length F=true
 rotate_left
 .skip
  have aa:Hid (¬Chk s F false V R):=fun h=>hg h.1;have aN:Hid (Calls Tryz.prog 23 #[.agg #[.slice Ap s.ps.length cp,.slice Ac s.cap.length cc,.slice Av s.vot.length cv],.slice Af F.length cf] w0 fun e w'=>e=.returned (.tuple #[.slice none 0 0,.int .i64 1])/\Below w0.heap.size w0 w'):=kr.o.mono fun e w' h=>⟨by have h1:=h.1;rw[zF hg]at h1;exact h1,h.2⟩;replace hg:=zh hg;clear kr;refine(wY (n:=3)).1 ?_;refine xS Tryz.func8 rfl trivial ?_ rfl;simp only[Tryz.ntmps8,yx,ze,yQ,Nat.reduceAdd,Nat.reduceSub,yf,yh,yy,ym,yP,yc];refine wpIn_wide.2 ?_;rw[ah]at u0 u1 u2 u9 v0 v1 v2 v9;rw[ah]at aN;replace ah:=zh ah
  go_wp2_with fail
  go_step3
  go_wp2_with fail
  refine aN.o.mono ?_;rintro e w1 ⟨rfl,hb⟩;rw[<-ah.o]at hb;have aC:=zh (aw.o.trans (hb.mono aw.o.size));have am:=zh (aH.o.below hb);have ak:=zh (aG.o.below hb);clear hb aN u0 u1 u2 u9 v0 v1 v2 v9;have u0:=am.o.c0;have u1:=am.o.c1;have u2:=am.o.c2;have u9:=am.o.lt;have v0:=ak.o.c0;have v1:=ak.o.c1;have v2:=ak.o.c2;have v9:=ak.o.lt;go_wp2
  (try rw[yA])
  exact⟨_,xE rfl _ _ _,au.o aa.o _ _ rfl aC.o⟩
 skip
 have aN:Hid (Calls Tryz.prog 23 #[.agg #[.slice Ap s.ps.length cp,.slice Ac s.cap.length cc,.slice Av s.vot.length cv],.slice Af F.length cf] w0 fun e w'=>(∃b,e=.returned (.tuple #[.slice (some ⟨b,0,none⟩) s.ps.length s.ps.length,.int .i64 0]))/\Below w0.heap.size w0 w'):=kr.o.mono fun e w' h=>⟨by have h1:=h.1;rw[zG hg]at h1;obtain⟨b,e1,_⟩:=h1;exact⟨b,e1⟩,h.2⟩;replace hg:=zh hg;clear kr;refine(wY (n:=3)).1 ?_;refine xS Tryz.func8 rfl trivial ?_ rfl;simp only[Tryz.ntmps8,yx,ze,yQ,Nat.reduceAdd,Nat.reduceSub,yf,yh,yy,ym,yP,yc];refine wpIn_wide.2 ?_;rw[ah]at u0 u1 u2 u9 v0 v1 v2 v9;rw[ah]at aN;replace ah:=zh ah
 go_wp2_with fail
 go_step3
 go_wp2_with fail
 refine aN.o.mono ?_;rintro e w1 ⟨⟨rb,rfl⟩,hb⟩;rw[<-ah.o]at hb;have aC:=zh (aw.o.trans (hb.mono aw.o.size));have am:=zh (aH.o.below hb);have ak:=zh (aG.o.below hb);clear hb aN u0 u1 u2 u9 v0 v1 v2 v9 aw aH aG ah;have u0:=am.o.c0;have u1:=am.o.c1;have u2:=am.o.c2;have u9:=am.o.lt;have v0:=ak.o.c0;have v1:=ak.o.c1;have v2:=ak.o.c2;have v9:=ak.o.lt;have ks:=Ef s Ap Ac Av cp cc cv w1 (hE.o.below aC.o) (hs.o.below aC.o);rw[hg.o.1]at ks;replace ks:=zh ks
 go_wp2_with fail
 refine ks.o.mono ?_;rintro e w2 ⟨rfl,hb⟩;have aD:=zh (aC.o.trans (hb.mono aC.o.size));have bO:=zh (am.o.below hb);have aQ:=zh (ak.o.below hb);clear hb ks u0 u1 u2 u9 v0 v1 v2 v9 aC am ak;have v0:=aQ.o.c0;have v1:=aQ.o.c1;have v2:=aQ.o.c2;have v9:=aQ.o.lt
 by_cases hvl:V.length=s.ps.length
 rotate_left
 .skip
  have aa:Hid (¬Chk s F false V R):=fun h=>hvl h.2.1;have m1:((V.length:Int) != (s.ps.length:Int))=true:=by rw[yC];omega
  have m2:(V.length != s.ps.length)=true:=by rw[yC];exact hvl
  replace hvl:=zh hvl;go_wp2
  (try rw[yA])
  exact⟨_,xE rfl _ _ _,au.o aa.o _ _ rfl aD.o⟩
 skip
 have m1:((V.length:Int) != (s.ps.length:Int))=false:=by rw[zZ];omega
 have m2:(V.length != s.ps.length)=false:=by rw[zZ];exact hvl
 by_cases hrl:R.length=s.ps.length
 rotate_left
 .skip
  have aa:Hid (¬Chk s F false V R):=fun h=>hrl h.2.2.1;have m3:((R.length:Int) != (s.ps.length:Int))=true:=by rw[yC];omega
  have m4:(R.length != s.ps.length)=true:=by rw[yC];exact hrl
  replace hrl:=zh hrl;replace hvl:=zh hvl;go_wp2
  (try rw[yA])
  exact⟨_,xE rfl _ _ _,au.o aa.o _ _ rfl aD.o⟩
 skip
 have m3:((R.length:Int) != (s.ps.length:Int))=false:=by rw[zZ];omega
 have m4:(R.length != s.ps.length)=false:=by rw[zZ];exact hrl
 have kf:=Le Aw cw V w2 (hE.o.below aD.o) (hV.o.below aD.o (zA _)) ca bn.o;obtain⟨fb,az⟩:∃b,b=Cl V:=⟨_,rfl⟩;rw[<-az]at kf;replace kf:=zh kf;replace hvl:=zh hvl;replace hrl:=zh hrl
 go_wp2_with fail
 refine kf.o.mono ?_;rintro e w3 ⟨rfl,hb⟩;have aq:=zh (aD.o.trans (hb.mono aD.o.size));have bk:=zh (bO.o.below hb);have aZ:=zh (aQ.o.below hb);clear hb kf v0 v1 v2 v9 aD bO aQ m1 m2 m3 m4
 cases fb with
 |false=>
  have aa:Hid (¬Chk s F false V R):=fun h=>by have h1:=h.2.2.2.1;rw[<-az]at h1;cases h1
  replace az:=zh az;go_wp2
  (try rw[yA])
  exact⟨_,xE rfl _ _ _,au.o aa.o _ _ rfl aq.o⟩
 |true=>
  have bR:=Em az.symm;obtain⟨a3,D,aI⟩:=bR;rw[hvl.o]at a3;obtain⟨val,aA⟩:∃f,f=AY V:=⟨_,rfl⟩;rw[<-aA]at a3 aI;have bW:=zh (fun p=>aI.short p);have ce:=zh (fun p=>L0 hg.o.1 bb aI p);have bm:Hid (InRow w Aw (AO s.ps.length val)):=by have h:=hV.o;rw[a3]at h;exact h
  have bf:Hid ((∀p,p<s.ps.length->DM (Ae s.cap) (toN F) false val (rnk R) p)<->Chk s F false V R):=⟨fun h=>⟨hg.o,hvl.o,hrl.o,az.symm,by rw[<-aA];exact h⟩,fun h=>by rw[aA];exact h.2.2.2.2⟩;have ksum:Hid (∀(p:Nat) W,Below w3.heap.size w3 W->Calls Tryz.prog 26 #[.int .i64 (p:Int),.pointer (some ⟨w.heap.size,0,none⟩),.pointer (some ⟨w.heap.size+1,0,none⟩)] W fun e w'=>e=.returned (.agg #[.bool (rq (An p val (Ae s.cap))).1,.string (rq (An p val (Ae s.cap))).2.1,.string (rq (An p val (Ae s.cap))).2.2])/\Below W.heap.size W w'):=fun p W h=>Ly s Ap Ac Av Aw Ar cp cc cv cw cr R.length false w.heap.size (w.heap.size+1) p val W (hE.o.below (aq.o.trans (h.mono aq.o.size))) (hs.o.below (aq.o.trans (h.mono aq.o.size))).cap hg.o.1 bb (bm.o.below (aq.o.trans (h.mono aq.o.size)) (zA _)) (fun q _=>bW.o q) (fun i hi=>(Kh hg.o.1 aI hi).2.2.2) (fun pre hp=>FN hg.o.1 bb aI pre hp) (bk.o.below h) (by have h2:=aZ.o.below h;rw[hvl.o]at h2;exact h2);replace a3:=zh a3;replace aI:=zh aI;replace aA:=zh aA;replace az:=zh az;have v1:=aZ.o.c1;have v9:=aZ.o.lt
  go_wp2_with fail
  go_step3
  go_wp2_with fail
  rw[hvl.o];have bx:=zh hg.o.1;have bv:s.cap.length<=140737488355328:=by omega
  have bB:Hid (([.bool false,.string ⟨#[49]⟩,.string ⟨#[49]⟩]:List Value)=[.bool (rq (1)).1,.string (rq (1)).2.1,.string (rq (1)).2.2]):=zh (by kernel_rfl);obtain⟨ob,be⟩:∃x,x=w3.heap.size:=⟨_,rfl⟩;obtain⟨w4,aT⟩:∃X,X=w3.alloc (.cells #[.bool false,.string ⟨#[49]⟩,.string ⟨#[49]⟩] 34):=⟨_,rfl⟩;have bC:Hid (Below w.heap.size w w4):=by rw[aT];exact aq.o.alloc aq.o.size _
  have aP:Hid (Below w3.heap.size w3 w4):=by rw[aT];exact(zI _ _).alloc (zA _) _
  have b5:Hid (Bk w4 ob 34 [.bool (rq (1)).1,.string (rq (1)).2.1,.string (rq (1)).2.2]):=by rw[aT,be,<-bB.o];exact Bk.new _ _ _
  have bN:=zh (aZ.o.below aP.o);have b8:=zh (bk.o.below aP.o);rw[<-aT,<-be];replace aT:=zh aT;replace be:=zh be;clear v1 v9 aZ bk aq bB;have bG:Hid (∀j,j<0->DM (Ae s.cap) (toN F) false val (rnk R) j):=fun j h=>absurd h (yJ _);have bH:Hid (Below w4.heap.size w4 w4):=zI _ _;have bZ:Hid (∀y,y∈F->0<=y):=fun y hy=>by obtain⟨i,hi,rfl⟩:=zo hy;exact(DB hg.o.2 hi).1.1
  have bu:Hid (∀p:Nat,p∈toN F<->(p:Int)∈F):=fun p=>by
   unfold toN;rw[vX];exact⟨fun⟨y,hy,e⟩=>by rw[<-e,Int.toNat_of_nonneg (bZ.o y hy)];exact hy,fun h=>⟨(p:Int),h,by simp⟩⟩
  have s1:Hid (ShortQ 1):=⟨zJ (by decide:1<6000) (xA PE),zJ (by decide:1<6000) (xA PE)⟩;have bL:Hid (Mk w.heap.size [] w4):=Mk.nil;refine wp_loop (fun(a':Act) (wr:World)=>∃(p:Nat)(Ds:List Nat)(u13 u14 u15 u16 u17 u18 u19 u20 u21 u22 u23 u24 u25 u26 u27 u28 u29 u30 u31 u32 u33 u34 u35 u36 u37 u38 u39 u40 u41 u42 u43 u44 u45 u46 u47 u48 u49 u50 u51 u52 u53 u54 u55 u56 u57 u58 u59 u63 u64 u65 u66 u67 u68 u69 u70 u71 u72 u73 u74 u75 u76 u77 u78 u79 u80 u81 u82 u83 u84 u85 u86 u87 u88 u89 u90 u91 u92 u93 u94 u95 u96 u97 u98 u99 u100 u101 u102 u103 u104 u105 u106 u107 u108 u109 u110 u111 u112 u113 u114 u115 u116 u117 u118 u119 u120 u121 u122 u123 u124 u125 u126 u127 u128 u129 u130 u131 u132 u133 u134 u135 u136 u137 u138 u139 u140 u141 u142 u143 u144 u145 u146 u147 u148 u149 u150 u151 u152 u153 u154 u155 u156 u157 u158 u159 u160 u161:Value),p<=s.ps.length/\Hid (∀j,j<p->DM (Ae s.cap) (toN F) false val (rnk R) j)/\Hid (Below w4.heap.size w4 wr)/\Hid (Mk w.heap.size Ds wr)/\a'={ tmps:=#[.agg #[.slice Ap s.ps.length cp,.slice Ac s.cap.length cc,.slice Av s.vot.length cv],.slice Af F.length cf,.agg #[.bool false,.slice Aw s.ps.length cw,.slice Ar R.length cr],.pointer (some ⟨w.heap.size,0,none⟩),undef,.pointer (some ⟨w.heap.size+1,0,none⟩),.bool false,.int .i64 (s.ps.length:Int),.int .i64 (s.ps.length:Int),.slice (some ⟨rb,0,none⟩) s.ps.length s.ps.length,.int .i64 0,.pointer (some ⟨ob,0,none⟩),.func (.func 26) #[] #[.pointer (some ⟨w.heap.size,0,none⟩),.pointer (some ⟨w.heap.size+1,0,none⟩)],u13,u14,u15,u16,u17,u18,u19,u20,u21,u22,u23,u24,u25,u26,u27,u28,u29,u30,u31,u32,u33,u34,u35,u36,u37,u38,u39,u40,u41,u42,u43,u44,u45,u46,u47,u48,u49,u50,u51,u52,u53,u54,u55,u56,u57,u58,u59,.slice Aw s.ps.length cw,.int .i64 (s.ps.length:Int),.int .i64 (p:Int),u63,u64,u65,u66,u67,u68,u69,u70,u71,u72,u73,u74,u75,u76,u77,u78,u79,u80,u81,u82,u83,u84,u85,u86,u87,u88,u89,u90,u91,u92,u93,u94,u95,u96,u97,u98,u99,u100,u101,u102,u103,u104,u105,u106,u107,u108,u109,u110,u111,u112,u113,u114,u115,u116,u117,u118,u119,u120,u121,u122,u123,u124,u125,u126,u127,u128,u129,u130,u131,u132,u133,u134,u135,u136,u137,u138,u139,u140,u141,u142,u143,u144,u145,u146,u147,u148,u149,u150,u151,u152,u153,u154,u155,u156,u157,u158,u159,u160,u161],defers:=mkD Ds }) (fun a' _=>s.ps.length-(intOf (a'.tmps.getD 62 undef)).toNat) ?_ ?_
  .refine⟨0,[],?_⟩
   (repeat apply Exists.intro)
   refine⟨?_,?_,?_,?_,rfl⟩
   all_goals first|exact zP _|exact bG|exact bH|exact bL
  intro a0 wr a;obtain⟨p,a⟩:=a;obtain⟨Ds,a⟩:=a;obtain⟨u13,a⟩:=a;obtain⟨u14,a⟩:=a;obtain⟨u15,a⟩:=a;obtain⟨u16,a⟩:=a;obtain⟨u17,a⟩:=a;obtain⟨u18,a⟩:=a;obtain⟨u19,a⟩:=a;obtain⟨u20,a⟩:=a;obtain⟨u21,a⟩:=a;obtain⟨u22,a⟩:=a;obtain⟨u23,a⟩:=a;obtain⟨u24,a⟩:=a;obtain⟨u25,a⟩:=a;obtain⟨u26,a⟩:=a;obtain⟨u27,a⟩:=a;obtain⟨u28,a⟩:=a;obtain⟨u29,a⟩:=a;obtain⟨u30,a⟩:=a;obtain⟨u31,a⟩:=a;obtain⟨u32,a⟩:=a;obtain⟨u33,a⟩:=a;obtain⟨u34,a⟩:=a;obtain⟨u35,a⟩:=a;obtain⟨u36,a⟩:=a;obtain⟨u37,a⟩:=a;obtain⟨u38,a⟩:=a;obtain⟨u39,a⟩:=a;obtain⟨u40,a⟩:=a;obtain⟨u41,a⟩:=a;obtain⟨u42,a⟩:=a;obtain⟨u43,a⟩:=a;obtain⟨u44,a⟩:=a;obtain⟨u45,a⟩:=a;obtain⟨u46,a⟩:=a;obtain⟨u47,a⟩:=a;obtain⟨u48,a⟩:=a;obtain⟨u49,a⟩:=a;obtain⟨u50,a⟩:=a;obtain⟨u51,a⟩:=a;obtain⟨u52,a⟩:=a;obtain⟨u53,a⟩:=a;obtain⟨u54,a⟩:=a;obtain⟨u55,a⟩:=a;obtain⟨u56,a⟩:=a;obtain⟨u57,a⟩:=a;obtain⟨u58,a⟩:=a;obtain⟨u59,a⟩:=a;obtain⟨u63,a⟩:=a;obtain⟨u64,a⟩:=a;obtain⟨u65,a⟩:=a;obtain⟨u66,a⟩:=a;obtain⟨u67,a⟩:=a;obtain⟨u68,a⟩:=a;obtain⟨u69,a⟩:=a;obtain⟨u70,a⟩:=a;obtain⟨u71,a⟩:=a;obtain⟨u72,a⟩:=a;obtain⟨u73,a⟩:=a;obtain⟨u74,a⟩:=a;obtain⟨u75,a⟩:=a;obtain⟨u76,a⟩:=a;obtain⟨u77,a⟩:=a;obtain⟨u78,a⟩:=a;obtain⟨u79,a⟩:=a;obtain⟨u80,a⟩:=a;obtain⟨u81,a⟩:=a;obtain⟨u82,a⟩:=a;obtain⟨u83,a⟩:=a;obtain⟨u84,a⟩:=a;obtain⟨u85,a⟩:=a;obtain⟨u86,a⟩:=a;obtain⟨u87,a⟩:=a;obtain⟨u88,a⟩:=a;obtain⟨u89,a⟩:=a;obtain⟨u90,a⟩:=a;obtain⟨u91,a⟩:=a;obtain⟨u92,a⟩:=a;obtain⟨u93,a⟩:=a;obtain⟨u94,a⟩:=a;obtain⟨u95,a⟩:=a;obtain⟨u96,a⟩:=a;obtain⟨u97,a⟩:=a;obtain⟨u98,a⟩:=a;obtain⟨u99,a⟩:=a;obtain⟨u100,a⟩:=a;obtain⟨u101,a⟩:=a;obtain⟨u102,a⟩:=a;obtain⟨u103,a⟩:=a;obtain⟨u104,a⟩:=a;obtain⟨u105,a⟩:=a;obtain⟨u106,a⟩:=a;obtain⟨u107,a⟩:=a;obtain⟨u108,a⟩:=a;obtain⟨u109,a⟩:=a;obtain⟨u110,a⟩:=a;obtain⟨u111,a⟩:=a;obtain⟨u112,a⟩:=a;obtain⟨u113,a⟩:=a;obtain⟨u114,a⟩:=a;obtain⟨u115,a⟩:=a;obtain⟨u116,a⟩:=a;obtain⟨u117,a⟩:=a;obtain⟨u118,a⟩:=a;obtain⟨u119,a⟩:=a;obtain⟨u120,a⟩:=a;obtain⟨u121,a⟩:=a;obtain⟨u122,a⟩:=a;obtain⟨u123,a⟩:=a;obtain⟨u124,a⟩:=a;obtain⟨u125,a⟩:=a;obtain⟨u126,a⟩:=a;obtain⟨u127,a⟩:=a;obtain⟨u128,a⟩:=a;obtain⟨u129,a⟩:=a;obtain⟨u130,a⟩:=a;obtain⟨u131,a⟩:=a;obtain⟨u132,a⟩:=a;obtain⟨u133,a⟩:=a;obtain⟨u134,a⟩:=a;obtain⟨u135,a⟩:=a;obtain⟨u136,a⟩:=a;obtain⟨u137,a⟩:=a;obtain⟨u138,a⟩:=a;obtain⟨u139,a⟩:=a;obtain⟨u140,a⟩:=a;obtain⟨u141,a⟩:=a;obtain⟨u142,a⟩:=a;obtain⟨u143,a⟩:=a;obtain⟨u144,a⟩:=a;obtain⟨u145,a⟩:=a;obtain⟨u146,a⟩:=a;obtain⟨u147,a⟩:=a;obtain⟨u148,a⟩:=a;obtain⟨u149,a⟩:=a;obtain⟨u150,a⟩:=a;obtain⟨u151,a⟩:=a;obtain⟨u152,a⟩:=a;obtain⟨u153,a⟩:=a;obtain⟨u154,a⟩:=a;obtain⟨u155,a⟩:=a;obtain⟨u156,a⟩:=a;obtain⟨u157,a⟩:=a;obtain⟨u158,a⟩:=a;obtain⟨u159,a⟩:=a;obtain⟨u160,a⟩:=a;obtain⟨u161,a⟩:=a;obtain⟨hp,hI,hK,hM,ha⟩:=a;subst ha;clear bL;clear bG bH;obtain⟨wz,rfl⟩:∃z,z=wr:=⟨_,rfl⟩;have aU:=zh (bC.o.trans (hK.o.mono bC.o.size));have bg:=zh (aP.o.trans (hK.o.mono aP.o.size))
  by_cases hpn:p<s.ps.length
  .skip
   have a7:Hid (DM (Ae s.cap) (toN F) false val (rnk R) p->∀j,j<p+1->DM (Ae s.cap) (toN F) false val (rnk R) j):=fun h j hj=>by
    by_cases c:j=p
    .subst c;exact h
    exact hI.o j (by omega)
   have an:Hid (¬DM (Ae s.cap) (toN F) false val (rnk R) p->¬Chk s F false V R):=fun h h2=>h (bf.o.2 h2 p hpn);obtain⟨ab,ao,rfl,al,ac⟩:=(bm.o.below aU.o (zA _)) (by rw[Ag];omega);obtain⟨e0,e1,e2⟩:=ac p (by rw[Ag];omega);rw[BE]at e0 e1 e2;clear ac;have j0:(0:Int)<=(p:Int):=by omega
   have j1:(p:Int)<(s.ps.length:Int):=by omega
   obtain⟨w6,aB⟩:∃X,X=((wz.alloc (.cells #[.int .i64 (p:Int)] 3)).alloc (.cells #[.bool (rq (val p)).1,.string (rq (val p)).2.1,.string (rq (val p)).2.2] 34)):=⟨_,rfl⟩;obtain⟨ib,aR⟩:∃x,x=wz.heap.size:=⟨_,rfl⟩;have ax:Hid (Below wz.heap.size wz w6):=by rw[aB];exact((zI _ wz).alloc (zA _) _).alloc (by simp) _
   have a9:Hid (Bk w6 ib 3 [.int .i64 (p:Int)]):=by rw[aB,aR];exact(Bk.new wz _ _).alloc _
   have a2:Hid (Bk w6 (ib+1) 34 [.bool (rq (val p)).1,.string (rq (val p)).2.1,.string (rq (val p)).2.2]):=by
    rw[aB,aR];have h:=Bk.new (wz.alloc (.cells #[.int .i64 (p:Int)] 3)) 34 [.bool (rq (val p)).1,.string (rq (val p)).2.1,.string (rq (val p)).2.2];rw[zK]at h;exact h
   have ad:=zh (aU.o.trans (ax.o.mono aU.o.size));have af:=zh (hK.o.trans (ax.o.mono hK.o.size));have aW:=zh (bg.o.trans (ax.o.mono bg.o.size));have aY:=zh (b5.o.below af.o);have a1:=zh (bN.o.below af.o);have kc:=Gm Af cf F (p:Int) w6 (hF.o.below ad.o) bF;have bt:=bu.o p;obtain⟨mb,bd⟩:∃b,b=decide ((p:Int)∈F):=⟨_,rfl⟩;rw[<-bd]at kc;rw[aB]at kc;replace kc:=zh kc;have bT:Hid (mb=true<->p∈toN F):=by rw[bd,xt];exact bt.symm
   replace bd:=zh bd;replace aB:=zh aB;replace aR:=zh aR;replace bt:=zh bt
   go_wp2_with fail
   refine kc.o.mono ?_;rintro e wq ⟨rfl,hq⟩;rw[<-aB.o]at hq;obtain rfl:=hq
   (try rw[<-aR.o])
   clear kc e0 e1 e2 al hI bg aU hK aB aR;have o0:=aY.o.c0;have o1:=aY.o.c1;have o2:=aY.o.c2;have o9:=aY.o.lt;have x0:=a2.o.c0;have x1:=a2.o.c1;have x2:=a2.o.c2;have x9:=a2.o.lt;have y0:=a9.o.c0;have y9:=a9.o.lt;have f0:=a1.o.c0;have f1:=a1.o.c1;have f2:=a1.o.c2;have f9:=a1.o.lt;have aF:Hid (∀W,Below wq.heap.size wq W->Env W):=fun W h=>hE.o.below (ad.o.trans (h.mono ad.o.size));have aO:Hid (∀W,Below wq.heap.size wq W->Calls Tryz.prog 26 #[.int .i64 (p:Int),.pointer (some ⟨w.heap.size,0,none⟩),.pointer (some ⟨w.heap.size+1,0,none⟩)] W fun e w'=>e=.returned (.agg #[.bool (rq (An p val (Ae s.cap))).1,.string (rq (An p val (Ae s.cap))).2.1,.string (rq (An p val (Ae s.cap))).2.2])/\Below W.heap.size W w'):=fun W h=>ksum.o p W (aW.o.trans (h.mono aW.o.size));have a6:=zh (bW.o p);have aL:=zh (ce.o p);obtain⟨sm,a5⟩:∃q,q=An p val (Ae s.cap):=⟨_,rfl⟩;rw[<-a5]at aO aL;replace a5:=zh a5;obtain⟨v,hv⟩:∃q,q=val p:=⟨_,rfl⟩;rw[<-hv]at x0 x1 x2 a6;replace hv:=zh hv;have HS:Hid (∀W,Below wq.heap.size wq W->(fun W=>W.cell? ⟨ob,0,none⟩=some (.bool (rq (1)).1)/\W.cell? ⟨ob,1,none⟩=some (.string (rq (1)).2.1)/\W.cell? ⟨ob,2,none⟩=some (.string (rq (1)).2.2)/\W.cell? ⟨ib+1,0,none⟩=some (.bool (rq (v)).1)/\W.cell? ⟨ib+1,1,none⟩=some (.string (rq (v)).2.1)/\W.cell? ⟨ib+1,2,none⟩=some (.string (rq (v)).2.2)/\W.cell? ⟨ib,0,none⟩=some (.int .i64 (p:Int))) W):=fun W h=>⟨(h.cell (p:=⟨ob,0,none⟩) o9).trans o0,(h.cell (p:=⟨ob,1,none⟩) o9).trans o1,(h.cell (p:=⟨ob,2,none⟩) o9).trans o2,(h.cell (p:=⟨ib+1,0,none⟩) x9).trans x0,(h.cell (p:=⟨ib+1,1,none⟩) x9).trans x1,(h.cell (p:=⟨ib+1,2,none⟩) x9).trans x2,(h.cell (p:=⟨ib,0,none⟩) y9).trans y0⟩;have av:Hid (Mk w.heap.size Ds wq):=hM.o.below ax.o;clear hM ax;obtain⟨rkb,rko,rfl,rkl,rkc⟩:=(hR.o.below ad.o) (by rw[hrl.o];omega);have r0:=rkc p (by rw[hrl.o];exact hpn);have bU:Hid (rnk R p=R[p]'(by rw[hrl.o];exact hpn)):=by unfold rnk;rw[yX,zY (by rw[hrl.o];exact hpn)];rfl
   obtain⟨rp,ag⟩:∃x,x=rnk R p:=⟨_,rfl⟩;rw[<-bU.o,<-ag]at r0;replace ag:=zh ag;have cn:(p:Int)<(R.length:Int):=by rw[hrl.o];omega
   have z:=Gl v
   by_cases hv0:v=0
   .skip
    rw[zH hv0]at z;have d:val p=0:=by rw[<-hv.o];exact hv0
    replace hv0:=zh hv0
    by_cases hr1:rp=-1
    rotate_left
    .skip
     have m1:(rp != -1)=true:=by rw[yC];exact hr1
     have aa:Hid (¬Chk s F false V R):=an.o fun h=>hr1 (by rw[ag.o];exact(h.2 rfl).1 d);replace hr1:=zh hr1;replace d:=zh d;go_wp2
     (try rw[yA])
     exact Bz (zA _) (Ds) _ av.o ad.o (fun W2 ai _=>⟨_,xE rfl _ _ _,au.o aa.o _ _ rfl ai⟩)
    skip
    have m1:(rp != -1)=false:=by rw[zZ];exact hr1
    have aV:=zh (a7.o ⟨fun h=>(by cases h),fun _=>⟨fun _=>by rw[<-ag.o];exact hr1,fun h=>absurd d h,fun h=>absurd d h⟩⟩);replace hr1:=zh hr1;replace d:=zh d;go_wp2;exact⟨⟨p+1,Ds,_,_,_,_,_,_,_,_,_,_,_,_,_,_,_,_,_,_,_,_,_,_,_,_,_,_,_,_,_,_,_,_,_,_,_,_,_,_,_,_,_,_,_,_,_,_,_,_,_,_,_,_,_,_,_,_,_,_,_,_,_,_,_,_,_,_,_,_,_,_,_,_,_,_,_,_,_,_,_,_,_,_,_,_,_,_,_,_,_,_,_,_,_,_,_,_,_,_,_,_,_,_,_,_,_,_,_,_,_,_,_,_,_,_,_,_,_,_,_,_,_,_,_,_,_,_,_,_,_,_,_,_,_,_,_,_,_,_,_,_,_,_,_,_,_,_,by omega,aV,af,av,by go_num⟩,by simp[intOf];omega⟩
   skip
   rw[zD hv0]at z;have d:val p≠0:=by rw[<-hv.o];exact hv0
   replace hv0:=zh hv0
   cases mb with
   |true=>
    have hm:=bT.o.1 rfl
    by_cases hr1:rp=0
    rotate_left
    .skip
     have m1:(rp != 0)=true:=by rw[yC];exact hr1
     have aa:Hid (¬Chk s F false V R):=an.o fun h=>hr1 (by rw[ag.o];exact((h.2 rfl).2.1 d hm).1);replace hr1:=zh hr1;replace d:=zh d;replace hm:=zh hm;go_wp2
     (try rw[yA])
     exact Bz (zA _) (Ds) _ av.o ad.o (fun W2 ai _=>⟨_,xE rfl _ _ _,au.o aa.o _ _ rfl ai⟩)
    skip
    have m1:(rp != 0)=false:=by rw[zZ];exact hr1
    by_cases h1v:v<=1
    rotate_left
    .skip
     have kl:Hid (∀W,Env W->Calls Tryz.prog 31 #[.agg #[.bool (rq (v)).1,.string (rq (v)).2.1,.string (rq (v)).2.2],.agg #[.bool (rq (1)).1,.string (rq (1)).2.1,.string (rq (1)).2.2]] W fun e w'=>e=.returned (.bool false)/\Below W.heap.size W w'):=fun W hW=>by have h:=Cc (v) (1) a6.o s1.o W hW;rw[zD h1v]at h;exact h
     have aa:Hid (¬Chk s F false V R):=an.o fun h=>h1v (by rw[hv.o];exact((h.2 rfl).2.1 d hm).2);replace h1v:=zh h1v;replace hr1:=zh hr1;replace d:=zh d;replace hm:=zh hm
     go_wp2_with fail
     refine(kl.o _ (aF.o _ (zI _ _))).mono ?_;rintro e w7 ⟨rfl,hb⟩;have bD:=zh (ad.o.trans (hb.mono ad.o.size));have bK:=zh (af.o.trans (hb.mono af.o.size));have bh:=zh (av.o.below hb);clear hb kl o0 o1 o2 o9 x0 x1 x2 x9 y0 y9 f0 f1 f2 f9 r0 rkl rkc;go_wp2
     (try rw[yA])
     exact Bz (zA _) (Ds) _ bh.o bD.o (fun W2 ai _=>⟨_,xE rfl _ _ _,au.o aa.o _ _ rfl ai⟩)
    skip
    have kl:Hid (∀W,Env W->Calls Tryz.prog 31 #[.agg #[.bool (rq (v)).1,.string (rq (v)).2.1,.string (rq (v)).2.2],.agg #[.bool (rq (1)).1,.string (rq (1)).2.1,.string (rq (1)).2.2]] W fun e w'=>e=.returned (.bool true)/\Below W.heap.size W w'):=fun W hW=>by have h:=Cc (v) (1) a6.o s1.o W hW;rw[zH h1v]at h;exact h
    have aV:=zh (a7.o ⟨fun h=>(by cases h),fun _=>⟨fun h=>absurd h d,fun _ _=>⟨by rw[<-ag.o];exact hr1,by rw[<-hv.o];exact h1v⟩,fun _ h=>absurd hm h⟩⟩);replace h1v:=zh h1v;replace hr1:=zh hr1;replace d:=zh d;replace hm:=zh hm
    go_wp2_with fail
    refine(kl.o _ (aF.o _ (zI _ _))).mono ?_;rintro e w7 ⟨rfl,hb⟩;have bD:=zh (ad.o.trans (hb.mono ad.o.size));have bK:=zh (af.o.trans (hb.mono af.o.size));have bh:=zh (av.o.below hb);clear hb kl o0 o1 o2 o9 x0 x1 x2 x9 y0 y9 f0 f1 f2 f9 r0 rkl rkc;go_wp2;exact⟨⟨p+1,Ds,_,_,_,_,_,_,_,_,_,_,_,_,_,_,_,_,_,_,_,_,_,_,_,_,_,_,_,_,_,_,_,_,_,_,_,_,_,_,_,_,_,_,_,_,_,_,_,_,_,_,_,_,_,_,_,_,_,_,_,_,_,_,_,_,_,_,_,_,_,_,_,_,_,_,_,_,_,_,_,_,_,_,_,_,_,_,_,_,_,_,_,_,_,_,_,_,_,_,_,_,_,_,_,_,_,_,_,_,_,_,_,_,_,_,_,_,_,_,_,_,_,_,_,_,_,_,_,_,_,_,_,_,_,_,_,_,_,_,_,_,_,_,_,_,_,_,by omega,aV,bK,bh,by go_num⟩,by simp[intOf];omega⟩
   |false=>
    have hm:p∉toN F:=fun h=>by have:=bT.o.2 h;cases this
    have HS2:Hid (∀W,Below wq.heap.size wq W->(fun W=>W.cell? ⟨ob,0,none⟩=some (.bool (rq (1)).1)/\W.cell? ⟨ob,1,none⟩=some (.string (rq (1)).2.1)/\W.cell? ⟨ob,2,none⟩=some (.string (rq (1)).2.2)/\W.cell? ⟨ib+1,0,none⟩=some (.bool (rq (v)).1)/\W.cell? ⟨ib+1,1,none⟩=some (.string (rq (v)).2.1)/\W.cell? ⟨ib+1,2,none⟩=some (.string (rq (v)).2.2)/\W.cell? ⟨ib,0,none⟩=some (.int .i64 (p:Int))/\W.cell? ⟨w.heap.size+1,2,none⟩=some (.slice (some ⟨rkb,rko,none⟩) R.length cr)/\W.cell? ⟨rkb,rko+p,none⟩=some (.int .i64 rp)) W):=fun W h=>⟨(h.cell (p:=⟨ob,0,none⟩) o9).trans o0,(h.cell (p:=⟨ob,1,none⟩) o9).trans o1,(h.cell (p:=⟨ob,2,none⟩) o9).trans o2,(h.cell (p:=⟨ib+1,0,none⟩) x9).trans x0,(h.cell (p:=⟨ib+1,1,none⟩) x9).trans x1,(h.cell (p:=⟨ib+1,2,none⟩) x9).trans x2,(h.cell (p:=⟨ib,0,none⟩) y9).trans y0,(h.cell (p:=⟨w.heap.size+1,2,none⟩) f9).trans f2,(h.cell (p:=⟨rkb,rko+p,none⟩) rkl).trans r0⟩;clear HS
    by_cases hr1:rp<1
    .skip
     have m1:decide (rp<1)=true:=zH hr1;have aa:Hid (¬Chk s F false V R):=an.o fun h=>by have h3:=((h.2 rfl).2.2 d hm).1;rw[<-ag.o]at h3;omega
     replace hr1:=zh hr1;replace d:=zh d;replace hm:=zh hm
     go_wp2_with fail
     clear o0 o1 o2 o9 x0 x1 x2 x9 y0 y9 f0 f1 f2 f9 r0 rkl rkc;refine Be (by kernel_rfl) (by kernel_rfl) ?_
     repeat (
      with_reducible refine wR (fun K hK=>?_)
      first
       |(refine BM (by rfl) ?_;refine hK _ ?_;clear hK K;(try simp only[Act.put,zB,zE,zC]))
       |(refine BN (by rfl) ?_
         go_simp;apply Exists.intro;refine⟨fun W hW=>?_,hK _ ?_⟩
         first
          |(with_reducible exact AC hW (aO.o W hW))
          |(obtain⟨q1,q2,q3,q4,q5,q6,q7,q8,q9⟩:=HS2.o W hW;go_simp<;>with_reducible rfl)
         clear hK K))
     refine wX ?_;intro wf aj;have ae:=ad.o.trans (aj.mono ad.o.size);replace ae:=zh ae;have ay:=zh (av.o.below aj);clear aj HS2 aF aO;go_wp2
     (try rw[yA])
     exact Bz (zA _) (Ds) _ ay.o ae.o (fun W2 ai _=>⟨_,xE rfl _ _ _,au.o aa.o _ _ rfl ai⟩)
    skip
    have m1:decide (rp<1)=false:=zD hr1
    by_cases h1v:v<=sm
    rotate_left
    .skip
     have kl:Hid (∀W,Env W->Calls Tryz.prog 31 #[.agg #[.bool (rq (v)).1,.string (rq (v)).2.1,.string (rq (v)).2.2],.agg #[.bool (rq (sm)).1,.string (rq (sm)).2.1,.string (rq (sm)).2.2]] W fun e w'=>e=.returned (.bool false)/\Below W.heap.size W w'):=fun W hW=>by have h:=Cc (v) (sm) a6.o aL.o W hW;rw[zD h1v]at h;exact h
     have aa:Hid (¬Chk s F false V R):=an.o fun h=>h1v (by rw[hv.o,a5.o];exact((h.2 rfl).2.2 d hm).2.1);replace hr1:=zh hr1;replace d:=zh d;replace hm:=zh hm;replace h1v:=zh h1v
     go_wp2_with fail
     clear o0 o1 o2 o9 x0 x1 x2 x9 y0 y9 f0 f1 f2 f9 r0 rkl rkc;refine Be (by kernel_rfl) (by kernel_rfl) ?_
     repeat (
      with_reducible refine wR (fun K hK=>?_)
      first
       |(refine BM (by rfl) ?_;refine hK _ ?_;clear hK K;(try simp only[Act.put,zB,zE,zC]))
       |(refine BN (by rfl) ?_
         go_simp;apply Exists.intro;refine⟨fun W hW=>?_,hK _ ?_⟩
         first
          |(with_reducible exact AC hW (kl.o W (aF.o W hW)))
          |(with_reducible exact AC hW (aO.o W hW))
          |(obtain⟨q1,q2,q3,q4,q5,q6,q7,q8,q9⟩:=HS2.o W hW;go_simp<;>with_reducible rfl)
         clear hK K))
     refine wX ?_;intro wf aj;have ae:=ad.o.trans (aj.mono ad.o.size);replace ae:=zh ae;have ay:=zh (av.o.below aj);clear aj HS2 aF aO;go_wp2
     (try rw[yA])
     exact Bz (zA _) (Ds) _ ay.o ae.o (fun W2 ai _=>⟨_,xE rfl _ _ _,au.o aa.o _ _ rfl ai⟩)
    skip
    have kl:Hid (∀W,Env W->Calls Tryz.prog 31 #[.agg #[.bool (rq (v)).1,.string (rq (v)).2.1,.string (rq (v)).2.2],.agg #[.bool (rq (sm)).1,.string (rq (sm)).2.1,.string (rq (sm)).2.2]] W fun e w'=>e=.returned (.bool true)/\Below W.heap.size W w'):=fun W hW=>by have h:=Cc (v) (sm) a6.o aL.o W hW;rw[zH h1v]at h;exact h
    have b0:Hid ((∃x,x∈Ae s.cap/\x.1=p/\0<=rnk R x.2.1/\rnk R x.2.1<rnk R p/\val x.2.1≠0)->∀j,j<p+1->DM (Ae s.cap) (toN F) false val (rnk R) j):=fun bq=>a7.o ⟨fun h=>(by cases h),fun _=>⟨fun h=>absurd h d,fun _ h=>absurd h hm,fun _ _=>⟨by rw[<-ag.o];omega,by rw[<-hv.o,<-a5.o];exact h1v,bq⟩⟩⟩;have b4:Hid ((¬∃x,x∈Ae s.cap/\x.1=p/\0<=rnk R x.2.1/\rnk R x.2.1<rnk R p/\val x.2.1≠0)->¬Chk s F false V R):=fun bq=>an.o fun h=>bq ((h.2 rfl).2.2 d hm).2.2;replace hr1:=zh hr1;replace d:=zh d;replace hm:=zh hm;replace h1v:=zh h1v;clear a7 an
    go_wp2_with fail
    clear o0 o1 o2 o9 x0 x1 x2 x9 y0 y9 f0 f1 f2 f9 r0 rkl rkc;refine Be (by kernel_rfl) (by kernel_rfl) ?_
    repeat (
     with_reducible refine wR (fun K hK=>?_)
     first
      |(refine BM (by rfl) ?_;refine hK _ ?_;clear hK K;(try simp only[Act.put,zB,zE,zC]))
      |(refine BN (by rfl) ?_
        go_simp;apply Exists.intro;refine⟨fun W hW=>?_,hK _ ?_⟩
        first
         |(with_reducible exact AC hW (kl.o W (aF.o W hW)))
         |(with_reducible exact AC hW (aO.o W hW))
         |(obtain⟨q1,q2,q3,q4,q5,q6,q7,q8,q9⟩:=HS2.o W hW;go_simp<;>with_reducible rfl)
        clear hK K))
    refine wX ?_;intro wf aj;have ae:=zh (ad.o.trans (aj.mono ad.o.size));have a8:=zh (af.o.trans (aj.mono af.o.size));have ay:=zh (av.o.below aj);have bj:=zh (a9.o.below aj);have b7:=zh (bN.o.below a8.o);have ba:=zh (b8.o.below a8.o);clear aj HS2 aF aO kl ad af av a9 a2 aY a1 aW;have u0:=ba.o.c0;have u1:=ba.o.c1;have u2:=ba.o.c2;have u9:=ba.o.lt;have y0:=bj.o.c0;have y9:=bj.o.lt;have kh:=zh (GR s Ap Ac Av cp cc cv (p:Int) wf)
    go_wp2_with fail
    refine kh.o.mono ?_;rintro e w8 ⟨rfl,aM⟩
    go_wp2_with fail
    (try rw[<-aM])
    have cm:w8.heap.size=wf.heap.size+2:=by rw[aM];simp
    have bE:Hid (Below wf.heap.size wf w8):=by rw[aM];exact((zI _ _).alloc (zA _) _).alloc (by simp) _
    have b9:Hid (Bk w8 wf.heap.size 25 [.slice Ap s.ps.length cp,.slice Ac s.cap.length cc,.slice Av s.vot.length cv]):=by rw[aM];exact(Bk.new wf _ _).alloc _
    have bM:Hid (Bk w8 (wf.heap.size+1) 3 [.int .i64 (p:Int)]):=by
     rw[aM];have h:=Bk.new (wf.alloc (.cells #[.slice Ap s.ps.length cp,.slice Ac s.cap.length cc,.slice Av s.vot.length cv] 25)) 3 [.int .i64 (p:Int)];rw[zK]at h;exact h
    have bp:=zh (hs.o.below ae.o).cap;have cb:Hid (InLk w8 Ac s.cap):=bp.o.below bE.o
    have cd:Hid (0<s.cap.length->∀b o,Ac=some ⟨b,o,none⟩->b<wf.heap.size):=fun h0 b o e=>by
     obtain⟨b',o',e',hl,_⟩:=bp.o h0;rw[e]at e';cases e';exact hl
    replace aM:=zh aM;clear u0 u1 u2 u9 y0 y9 kh bp;refine S8 (fun fr a4=>?_);refine(wpIn_wide (n:=3)).1 ?_
    refine wpIn_rangeFunc_ownH (F:=Fence.wide) rfl (by decide) (gf:=70) (lb:=#[.pointer (some ⟨wf.heap.size,0,none⟩),.pointer (some ⟨wf.heap.size+1,0,none⟩)]) (by rw[a4];rfl) trivial (enters_of Tryz.func70 (by kernel_rfl) rfl)
     (F1 Fence.wide 2 trivial rfl (by decide) s Ap Ac Av cp cc cv wf.heap.size (wf.heap.size+1) wf.heap.size (p:Int) w8 cb.o bv (by omega) cd.o (by omega) b9.o (bM.o.c0)) (fun h k=>Kq.trans h k) (Wp (by omega) (by omega)) (zI _ _) (fun _=>rfl)
     (fun pre W=>(NG (Ae s.cap) val (rnk R) p pre/\Bk W (wf.heap.size+1) 3 [.int .i64 (p:Int)])/\Below wf.heap.size wf W)
     (fun c pre W=>(c=.exit 1/\SG (Ae s.cap) val (rnk R) p pre)/\Below wf.heap.size wf W)
     (OwnFrom.and (fun _ _ _ _ hs hg hr=>⟨hs.1,GB hs.2 hg hr⟩) (ownFrom_below (zA _) (by omega)))
     (fun c=>OwnFrom.and (fun _ _ _ _ hs _ _=>hs) (ownFrom_below (zA _) (by omega)))
     ⟨⟨fun _ h=>(by cases h),bM.o⟩,bE.o⟩
     (fun x a' W=>∃Bx,wf.heap.size+1<Bx/\Bk W Bx 55 [.int .i64 (s.cap[x.1]'x.2).1,.int .i64 (s.cap[x.1]'x.2).2.1,.bool (s.cap[x.1]'x.2).2.2.1,.string (s.cap[x.1]'x.2).2.2.2.1,.string (s.cap[x.1]'x.2).2.2.2.2]/\a'={ tmps:=(fr.setIfInBounds 87 (lkV (s.cap[x.1]'x.2))).setIfInBounds 16 (.pointer (some ⟨Bx,0,none⟩)),defers:=[] })
     (fun x a' _ X Y row hs hg hr=>by obtain⟨Bx,h1,h2,h3⟩:=hs;exact⟨Bx,h1,GB h2 hg hr,h3⟩)
     ?assign ?body ?done ?stop
    case assign=>
     rintro l pre x W K ⟨⟨ar,bP⟩,hB⟩ bJ;have bo:=hB.size;have b6:=bP.lt;subst a4;unfold lkV at bJ ⊢
     gi_wp2
     exact bJ _ _ ((KeepsOthers.alloc _ _).from _) ((Kq.refl W).alloc bo b6 _) ⟨⟨ar,bP.alloc _⟩,hB.alloc bo _⟩ ⟨W.heap.size,by omega,Bk.new W _ _,rfl⟩
    case body=>
     rintro l pre x a' W hl ⟨r,hr⟩ ⟨⟨ar,bP⟩,hB⟩ ⟨Bx,ch,bX,rfl⟩ ck;obtain⟨i,hi⟩:=x;obtain⟨co,ho,Ai,bs,aL,cj,br⟩:=Du bx.o (k:=i) hi;dsimp only at bX ⊢;rw[bs]at bX ⊢;dsimp only at bX;have aK:Hid (Gd (Ae s.cap) val (rnk R) p i<->0<=rnk R ho/\rnk R ho<rnk R p/\val ho≠0):=by unfold Gd;rw[I4 hi,aL];exact vw
     have bo:=hB.size;have aE:=ae.o.trans (hB.mono ae.o.size);have bQ:=b7.o.below hB;have bI:=bj.o.below hB;rw[hvl.o]at bQ;obtain⟨b1,o1,e1,rl,rc⟩:=(hR.o.below aE) (by rw[hrl.o];omega)
     cases e1
     have r0:=rc p (by rw[hrl.o];exact hpn);have r1:=rc ho (by rw[hrl.o];exact br);have aS:rnk R ho=R[ho]'(by rw[hrl.o];exact br):=by unfold rnk;rw[yX,zY (by rw[hrl.o];exact br)];rfl
     rw[<-bU.o]at r0;rw[<-aS]at r1;obtain⟨b2,o2,e2,vl,vc⟩:=(bm.o.below aE (zA _)) (by rw[Ag];omega)
     cases e2
     obtain⟨_,v1,_⟩:=vc ho (by rw[Ag];omega);rw[BE]at v1;clear rc vc aS;have f1:=bQ.c1;have f2:=bQ.c2;have f9:=bQ.lt;have y0:=bI.c0;have y9:=bI.lt;have x1:=bX.c1;have x9:=bX.lt;obtain⟨rh,aS⟩:∃x,x=rnk R ho:=⟨_,rfl⟩;obtain⟨bA,bw⟩:∃x,x=rnk R p:=⟨_,rfl⟩;obtain⟨vh,bz⟩:∃x,x=val ho:=⟨_,rfl⟩;rw[<-aS]at r1 aK;rw[<-bw]at r0 aK;rw[<-bz]at v1 aK;have z:=Gl vh;have q3:(0:Int)<=(ho:Int):=by omega
     have q4:(ho:Int)<(s.ps.length:Int):=by omega
     have q5:(ho:Int)<(R.length:Int):=by rw[hrl.o];omega
     replace aS:=zh aS;replace bw:=zh bw;replace bz:=zh bz;replace hB:=zh hB;replace bP:=zh bP;replace ar:=zh ar;replace bs:=zh bs;replace aL:=zh aL;replace hr:=zh hr;replace aE:=zh aE;clear bX bQ bI;subst a4;simp only[zB,zE,zC]
     by_cases g1:0<=rh
     rotate_left
     .skip
      have n1:decide (0<=rh)=false:=zD g1;have aJ:Hid (¬Gd (Ae s.cap) val (rnk R) p i):=fun h=>g1 (aK.o.1 h).1;replace g1:=zh g1
      gi_wp2
      exact⟨KeepsFrom.refl _ _,Kq.refl W,⟨ar.o.snoc aJ.o,bP.o⟩,hB.o⟩
     .skip
      have n1:decide (0<=rh)=true:=zH g1
      by_cases g2:rh<bA
      rotate_left
      .skip
       have n2:decide (rh<bA)=false:=zD g2;have aJ:Hid (¬Gd (Ae s.cap) val (rnk R) p i):=fun h=>g2 (aK.o.1 h).2.1;replace g1:=zh g1;replace g2:=zh g2
       gi_wp2
       exact⟨KeepsFrom.refl _ _,Kq.refl W,⟨ar.o.snoc aJ.o,bP.o⟩,hB.o⟩
      .skip
       have n2:decide (rh<bA)=true:=zH g2
       by_cases g3:vh=0
       .skip
        rw[zH g3]at z;have aJ:Hid (¬Gd (Ae s.cap) val (rnk R) p i):=fun h=>(aK.o.1 h).2.2 g3;replace g1:=zh g1;replace g2:=zh g2;replace g3:=zh g3;have z2:((rq vh).2.1.toList != [48])=false:=by unfold bne;rw[z];rfl
        gi_wp2
        exact⟨KeepsFrom.refl _ _,Kq.refl W,⟨ar.o.snoc aJ.o,bP.o⟩,hB.o⟩
       .skip
        rw[zD g3]at z;have aJ:Hid (Gd (Ae s.cap) val (rnk R) p i):=aK.o.2 ⟨g1,g2,g3⟩;replace g1:=zh g1;replace g2:=zh g2;replace g3:=zh g3;have z2:((rq vh).2.1.toList != [48])=true:=by unfold bne;rw[z];rfl
        gi_wp2
        exact⟨KeepsFrom.refl _ _,⟨rfl,SG.snoc pre aJ.o⟩,hB.o⟩
    case done=>
     rintro D2 ys W hD rfl ⟨⟨ar,_⟩,hB⟩ aX
     have aa:Hid (¬Chk s F false V R):=b4.o fun hx=>by
      obtain⟨i,h1,h2⟩:=PK bx.o hx;exact ar i h1 h2
     have aE:=zh (ae.o.trans (hB.mono ae.o.size));have bi:Hid (Mk w.heap.size (D2::Ds) W):=(ay.o.below hB).cons (by have:=ae.o.size;omega) aX (fun h=>by have:=ay.o.lt h;omega);clear ar aX hB;subst a4;go_wp2
     (try rw[yA])
     exact Bz (zA _) (D2::Ds) _ bi.o aE.o (fun W2 ai _=>⟨_,xE rfl _ _ _,au.o aa.o _ _ rfl ai⟩)
    case stop=>
     rintro D2 c pre W hD ⟨k,hk,rfl⟩ ⟨⟨rfl,cg⟩,hB⟩ aX;obtain⟨i,hi,bS⟩:=cg;have aV:=zh (b0.o (PM bx.o hi bS));have aE:=zh (ae.o.trans (hB.mono ae.o.size));have b3:=zh (a8.o.trans (hB.mono a8.o.size));have bi:Hid (Mk w.heap.size (D2::Ds) W):=(ay.o.below hB).cons (by have:=ae.o.size;omega) aX (fun h=>by have:=ay.o.lt h;omega);clear aX hB hi bS;subst a4;refine wpIn_wide.2 ?_;go_wp2;exact⟨⟨p+1,D2::Ds,_,_,_,_,_,_,_,_,_,_,_,_,_,_,_,_,_,_,_,_,_,_,_,_,_,_,_,_,_,_,_,_,_,_,_,_,_,_,_,_,_,_,_,_,_,_,_,_,_,_,_,_,_,_,_,_,_,_,_,_,_,_,_,_,_,_,_,_,_,_,_,_,_,_,_,_,_,_,_,_,_,_,_,_,_,_,_,_,_,_,_,_,_,_,_,_,_,_,_,_,_,_,_,_,_,_,_,_,_,_,_,_,_,_,_,_,_,_,_,_,_,_,_,_,_,_,_,_,_,_,_,_,_,_,_,_,_,_,_,_,_,_,_,_,_,_,by omega,aV,b3,bi,by go_num⟩,by simp[intOf];omega⟩
  skip
  obtain rfl:p=s.ps.length:=by omega
  have bY:=zh (bf.o.1 hI.o);go_wp2
  (try rw[yA])
  exact Bz (zA _) Ds _ hM.o aU.o (fun W2 ai _=>⟨_,xE rfl _ _ _,ChkPost.yes bY.o rfl ai⟩)
theorem J1(s:SR)(Ap Ac Av Af Aw Ar:Option Addr)(cp cc cv cf cw cr:Nat)(F:List Int)(ab:Bool)(V:List Raw)(R:List Int)(w:World)(hE:Env w)(hs:StIn w s Ap Ac Av)(ae:s.cap.length<=300)(hF:InInt w Af F)(a:F.length<=140737488355328)
 (hV:InRow w Aw V)(aa:V.length<=140737488355328)(ad:∀k (h:k<V.length),V[k].2.1.size<=140737488355328/\V[k].2.2.size<=140737488355328)(hR:InInt w Ar R)(d:R.length<=140737488355328):
 Calls Tryz.prog 8 #[.agg #[.slice Ap s.ps.length cp,.slice Ac s.cap.length cc,.slice Av s.vot.length cv],.slice Af F.length cf,.agg #[.bool ab,.slice Aw V.length cw,.slice Ar R.length cr]] w (ChkPost s F ab V R w):=by
 cases ab
 .exact L4 s Ap Ac Av Af Aw Ar cp cc cv cf cw cr F V R w hE hs ae hF a hV aa ad hR d
 exact Nl s Ap Ac Av Af Aw Ar cp cc cv cf cw cr F V R w hE hs ae hF a hV aa ad hR d
end Bd
end
section
open Go.RowKit Go.Shelf
namespace Sh
open Nt Ci
structure VMC(w:World)(vb mb n:Nat)(val:Nat->Rat)(C:Nat):Prop where
 x:Bk w vb 73 [.map (some mb)]
 m:∃c f,MapK Tryz.prog 3 κi w mb c f/\c<=C/\∀p:Nat,p<n->match f (p:Int) with|some v=>v=qv (val p)|none=>val p=0
 ne:vb≠mb
section
variable {w w':World} {vb mb n C:Nat} {val:Nat->Rat}
theorem VMC.vm(h:VMC w vb mb n val C)(hC:C<=100000):VM w vb mb n val:=by
 obtain⟨c,f,h1,h2,h3⟩:=h.m;exact⟨h.x,c,f,h1,by omega,h3⟩
theorem VMC.lt(h:VMC w vb mb n val C):mb<w.heap.size:=by
 obtain⟨c,f,h1,_⟩:=h.m;exact h1.lt
theorem VMC.kp{xs:List Nat}(h:VMC w vb mb n val C)(hk:Kp xs w w')(h1:vb∉xs)(h2:mb∉xs):VMC w' vb mb n val C:=by
 obtain⟨c,f,a1,a2,a3⟩:=h.m;exact⟨h.x.kp hk h1,⟨c,f,a1.block (hk.block mb a1.lt h2),a2,a3⟩,h.ne⟩
theorem VMC.below(h:VMC w vb mb n val C)(hb:Below w.heap.size w w'):VMC w' vb mb n val C:=by
 obtain⟨c,f,a1,a2,a3⟩:=h.m;exact⟨h.x.below hb,⟨c,f,a1.below hb,a2,a3⟩,h.ne⟩
theorem VMC.congr{val':Nat->Rat}(h:VMC w vb mb n val C)(e:∀p,p<n->val' p=val p):VMC w vb mb n val' C:=by
 obtain⟨c,f,a1,a2,a3⟩:=h.m;exact⟨h.x,⟨c,f,a1,a2,fun p hp=>by rw[e p hp];exact a3 p hp⟩,h.ne⟩
theorem VMC.put(h:VMC w vb mb n val C)(hC:C<100000){p:Nat}(hp:p<100000)(q:Rat):
 ∃w',(Instr.mapUpdate 73 (.map (some mb)) (.int .i64 (p:Int)) (qv q)).run Tryz.prog w=.ok () w'/\VMC w' vb mb n (fun x=>if x=p then q else val x) (C+1)/\w.grownBy w' (some mb):=by
 obtain⟨c,f,a1,a2,a3⟩:=h.m;obtain⟨w',r1,r2,r3⟩:=a1.put Gy FI Tryz.underlying73 (by unfold maxLen;omega) (EG Tryz.underlying3 (a:=(p:Int)) (by omega) (by omega)) (qv q);refine⟨w',r1,⟨h.x.grown r3 (by simpa using h.ne),⟨_,_,r2,?_,fun x hx=>?_⟩,h.ne⟩,r3⟩
 .split<;>omega
 by_cases e:x=p
 .subst e;rw[Cf,zG rfl]
 rw[BY (by omega),zF e];exact a3 x hx
end
theorem inInt_kp{w w':World}{xs:List Nat}{A:Option Addr}{l:List Int}(h:InInt w A l)(hk:Kp xs w w')(hb:∀b o,A=some ⟨b,o,none⟩->b∉xs):InInt w' A l:=fun h0=>by
 obtain⟨b,o,e,hl,hc⟩:=h h0;have d:=hk.block b hl (hb b o e);exact⟨b,o,e,zJ hl hk.size,fun j hj=>(zR (a:=⟨b,o+j,none⟩) d).trans (hc j hj)⟩
structure EntB(W:World)(B xb:Nat)(A:Option Addr)(c:Nat)(u:List Nat):Prop where
 x:Bk W xb 79 [.slice A u.length c,.slice none 0 0,.slice none 0 0]
 o:W.ownsRow B 3 1 (.slice A u.length c) u.length (Ca u)
 nx:(Value.slice A u.length c).ownBlock≠some xb
section
variable {W W':World} {B xb c:Nat} {A:Option Addr} {u:List Nat}
theorem EntB.start(h:Bk W xb 79 [.slice none 0 0,.slice none 0 0,.slice none 0 0]):EntB W B xb none 0 [] :=
 ⟨h,yU _ _ _ _,by simp[Value.ownBlock]⟩
theorem EntB.below(h:EntB W B xb A c u)(hb:Below W.heap.size W W'):EntB W' B xb A c u:=⟨h.x.below hb,AS h.o hb,h.nx⟩
theorem EntB.inInt(h:EntB W B xb A c u):InInt W A (u.map fun(q:Nat)=>(q:Int)):=fun h0=>by
 rcases Ek h.o with⟨e,e2⟩|⟨g,cap,e,h1,h2,_,h4⟩
 .rw[e2]at h0;simp at h0
 injection e with e1 _ _;refine⟨g,0,e1,h2,fun j hj=>?_⟩;have a:j<u.length:=by simpa using hj
 rw[yH,yD];exact h4 j a
theorem EntB.blk(h:EntB W B xb A c u)(b o:Nat)(e:A=some ⟨b,o,none⟩):B<=b/\b<W.heap.size/\b≠xb:=by
 rcases Ek h.o with⟨e1,_⟩|⟨g,cap,e1,h1,h2,_,_⟩
 .injection e1 with e1 _ _;rw[e]at e1;cases e1
 injection e1 with e1 _ _;have hb:b=g:=by rw[e]at e1;injection e1 with e1;injection e1
 subst hb;have ho:o=0:=by rw[e]at e1;injection e1 with e1;injection e1
 subst ho;refine⟨h1,h2,fun hx=>h.nx ?_⟩;rw[e,<-hx];rfl
theorem EntB.step(h:EntB W B xb A c u){p:Nat}{v':Value}{w':World}(ho:w'.ownsRow B 3 1 v' (u.length+1) (Ca u++[.int .i64 (p:Int)]))(hg:W.grownBy w' (Value.slice A u.length c).ownBlock)
 (hn:v'.ownBlock=(Value.slice A u.length c).ownBlock\/v'.ownBlock=some W.heap.size):∃A' c',v'=.slice A' (u.length+1) c'/\EntB (w'.setCell ⟨xb,0,none⟩ v') B xb A' c' (u++[p])/\Bk w' xb 79 [.slice A u.length c,.slice none 0 0,.slice none 0 0]:=by
 obtain⟨A',c',rfl⟩:=Ci.ET ho;have hx:=h.x.grown hg fun e=>h.nx e.symm
 have a:(Value.slice A' (u.length+1) c').ownBlock≠some xb:=fun e=>by
  rcases hn with c1|c1
  .exact h.nx (c1▸e)
  rw[c1]at e;cases e;exact absurd h.x.lt (Nat.lt_irrefl _)
 have hl:(u++[p]).length=u.length+1:=by simp
 refine⟨A',c',rfl,⟨?_,?_,?_⟩,hx⟩
 .rw[hl];exact hx.set 0 _
 .rw[hl,FM];exact Ol ho ((Kp.refl [xb] w').set _ (.inl (by simp))) (fun b e hb=>a (by rw[e,List.mem_singleton.1 hb]))
 rw[hl];exact a
end
structure Ent where
 x:Nat
 A:Option Addr
 c:Nat
 u:List Nat
def Ent.pt(e:Ent):Value:=.pointer (some ⟨e.x,0,none⟩)
structure SyM(W:World)(B:Nat)(v:Value)(E:List Ent):Prop where
 row:W.ownsRow B 76 1 v E.length (E.map Ent.pt)
 ent:∀e,e∈E->Bk W e.x 79 [.slice e.A e.u.length e.c,.slice none 0 0,.slice none 0 0]/\InInt W e.A (e.u.map fun(q:Nat)=>(q:Int))/\B<=e.x
 blk:∀e,e∈E->∀b o,e.A=some ⟨b,o,none⟩->B<=b/\b<W.heap.size/\∀f,f∈E->b≠f.x
 nd:(E.map Ent.x).Nodup
 rb:∀b,v.ownBlock=some b->∀e,e∈E->b≠e.x/\∀o,e.A≠some ⟨b,o,none⟩
section
variable {W W':World} {B:Nat} {v:Value} {E:List Ent}
theorem SyM.start(W:World)(B:Nat):SyM W B (.slice none 0 0) [] :=
 ⟨yU _ _ _ _,(fun e h=>by cases h),(fun e h=>by cases h),List.nodup_nil,fun b e=>by cases e⟩
theorem SyM.below(h:SyM W B v E)(hb:Below W.heap.size W W'):SyM W' B v E :=
 ⟨AS h.row hb,fun e he=>⟨(h.ent e he).1.below hb,(h.ent e he).2.1.below hb,(h.ent e he).2.2⟩,fun e he b o q=>by
   obtain⟨h1,h2,h3⟩:=h.blk e he b o q;exact⟨h1,zJ h2 hb.size,h3⟩,h.nd,h.rb⟩
theorem SyM.add{W2 W3:World}{v':Value}{e:Ent}(h:SyM W B v E)(hB:B<=W.heap.size)(hb:Below W.heap.size W W2)(hx:Bk W2 e.x 79 [.slice e.A e.u.length e.c,.slice none 0 0,.slice none 0 0])(hi:InInt W2 e.A (e.u.map fun(q:Nat)=>(q:Int)))
 (hn:W.heap.size<=e.x)(hA:∀b o,e.A=some ⟨b,o,none⟩->W.heap.size<=b/\b<W2.heap.size/\b≠e.x)
 (ho:W3.ownsRow B 76 1 v' (E.length+1) (E.map Ent.pt++[e.pt]))(hg:W2.grownBy W3 v.ownBlock)(hv:v'.ownBlock=v.ownBlock\/∃b,v'.ownBlock=some b/\W2.heap.size<=b):SyM W3 B v' (E++[e]):=by
 have h2:=h.below hb;have rlt:∀b,v.ownBlock=some b->b<W.heap.size:=fun b q=>(h.row.lt b q).2;have xlt:∀f,f∈E->f.x<W.heap.size:=fun f hf=>(h.ent f hf).1.lt;have key:∀f,f∈E++[e]->f∈E\/f=e:=fun f hf=>by simpa using hf
 refine⟨by rw[zX,xG];exact ho,fun f hf=>?_,fun f hf b o q=>?_,?_,fun b q f hf=>?_⟩
 .rcases key f hf with c|rfl
  .obtain⟨e1,e2,e3⟩:=h2.ent f c;refine⟨e1.grown hg fun q=>(h.rb _ q.symm f c).1 rfl,fun h0=>?_,e3⟩;obtain⟨b,o,q,hl,hc⟩:=e2 h0;refine⟨b,o,q,zJ hl hg.size,fun j hj=>(zR (a:=⟨b,o+j,none⟩) (hg.block b hl fun z=>?_)).trans (hc j hj)⟩;exact(h.rb b z.symm f c).2 o q
  refine⟨hx.grown hg fun q=>?_,fun h0=>?_,zS hB hn⟩
  .have:=rlt _ q.symm;omega
  obtain⟨b,o,q,hl,hc⟩:=hi h0;refine⟨b,o,q,zJ hl hg.size,fun j hj=>(zR (a:=⟨b,o+j,none⟩) (hg.block b hl fun z=>?_)).trans (hc j hj)⟩;have:=rlt _ z.symm;have:=(hA b o q).1;omega
 .rcases key f hf with c|rfl
  .obtain⟨e1,e2,e3⟩:=h.blk f c b o q;refine⟨e1,zJ e2 (zS hb.size hg.size),fun g aa=>?_⟩
   rcases key g aa with d|rfl
   .exact e3 g d
   omega
  obtain⟨e1,e2,e3⟩:=hA b o q;refine⟨by omega,zJ e2 hg.size,fun g aa=>?_⟩
  rcases key g aa with d|rfl
  .have:=xlt g d;omega
  exact e3
 .rw[xG,vQ];refine List.nodup_append.2 ⟨h.nd,by simp,fun a ha b ae=>?_⟩;obtain⟨f,hf,rfl⟩:=List.mem_map.1 ha;rw[List.mem_singleton.1 ae];have:=xlt f hf;omega
 have ad:v.ownBlock=some b\/W2.heap.size<=b:=by
  rcases hv with c|⟨b2,c,d⟩
  .exact .inl (c▸q)
  rw[c]at q;cases q;exact .inr d
 have af:e.x<W2.heap.size:=hx.lt;have ah:=hb.size
 rcases key f hf with c|rfl
 .rcases ad with d|d
  .exact h.rb b d f c
  refine⟨by have:=xlt f c;omega,fun o z=>?_⟩;have:=(h.blk f c b o z).2.1;omega
 rcases ad with d|d
 .have ag:=rlt b d;refine⟨by omega,fun o z=>?_⟩;have:=(hA b o z).1;omega
 refine⟨by omega,fun o z=>?_⟩;have:=(hA b o z).2.1;omega
end
end Sh
end
section
open Go.RowKit Go.Shelf
namespace Sh
open Nt Ci
theorem S9(k:Int)(q:Rat)(hq:(k:Rat)=q)(hk:-10<=k/\k<=10)(w:World)(hE:Env w):
 Calls Tryz.prog 42 #[.int .i64 k] w fun e w'=>e=.returned (.agg #[.bool (rq q).1,.string (rq q).2.1,.string (rq q).2.2])/\Below w.heap.size w w':=Gj k q hq hk w hE
theorem Oo{w:World}{vb mb n C:Nat}{val:Nat->Rat}(h:VMC w vb mb n val C)(hC:C<100000){p:Nat}(hp:p<100000)(q:Rat):
 ∃w',(Instr.mapUpdate 73 (.map (some mb)) (.int .i64 (p:Int)) (.agg #[.bool (rq q).1,.string (rq q).2.1,.string (rq q).2.2])).run Tryz.prog w=.ok () w'/\VMC w' vb mb n (fun x=>if x=p then q else val x) (C+1)/\w.grownBy w' (some mb):=h.put hC hp q
noncomputable def efR(j:Nat):Code:=((Tryz.f13.body.map Ci.BB).bind fun l=>l.find? (Nb j)).getD .skip
theorem ef9{c0 c1 c2 c3 c4 c5 c6 c7 c8 c9 bA bB bC bD bE bF bG bH bI bJ bK bL bM bN bO bP bQ bR bS bT bU bW bX bY bZ b0 b1 b2 b3 b4 b5 b6 b7 b8 b9 ca cb cc cd ce cf cg ch ci cj ck cl cm cn co cq cr ct cu cv cw cx cy cz cA cB cC cD cE cF cG cH cI cJ cK cL cM cN cP cR cS cT cU cV cW cX cY cZ da db aa ad ae af ag ah ai aj ak al am an ao aq ar au av aw ax ay az aA aB aC aD aE aF aG aH aI aJ aK aL aM aN aO aP aQ aR aS aT aU aV aW aX aY aZ a0 a1 a2 a3 a4 a5 a6 a7 a8 a9 ba bb bd be bf bg bh bi bj bk bm bn bo bp bq br bs bt bu bv bw de df dh:Value}{Q:Exit->Act->World->Prop}(vb mb n C p:Nat)(val:Nat->Rat)(w:World)(hE:Env w)(hV:VMC w vb mb n val C)(hC:C<100000)(hp:p<100000)
 (h:∀(u58 u59 u60:Value)(W:World)(_:Hid (VMC W vb mb n (fun x=>if x=p then 1 else val x) (C+1)))(_:Hid (Kp [mb] w W)),Q .normal ⟨#[c0,c1,c2,c3,c4,c5,c6,c7,c8,c9,.pointer (some ⟨vb,0,none⟩),bA,.int .i64 (p:Int),bB,bC,bD,bE,bF,bG,bH,bI,bJ,bK,bL,bM,bN,bO,bP,bQ,bR,bS,bT,bU,bW,bX,bY,bZ,b0,b1,b2,b3,b4,b5,b6,b7,b8,b9,ca,cb,cc,cd,ce,cf,cg,ch,ci,cj,ck,u58,u59,u60,cl,cm,cn,co,cq,cr,ct,cu,cv,cw,cx,cy,cz,cA,cB,cC,cD,cE,cF,cG,cH,cI,cJ,cK,cL,cM,cN,cP,cR,cS,cT,cU,cV,cW,cX,cY,cZ,da,db,aa,ad,ae,af,ag,ah,ai,aj,ak,al,am,an,ao,aq,ar,au,av,aw,ax,ay,az,aA,aB,aC,aD,aE,aF,aG,aH,aI,aJ,aK,aL,aM,aN,aO,aP,aQ,aR,aS,aT,aU,aV,aW,aX,aY,aZ,a0,a1,a2,a3,a4,a5,a6,a7,a8,a9,ba,bb,bd,be,bf,bg,bh,bi,bj,bk,bm,bn,bo,bp,bq,br,bs,bt,bu,bv,bw],[]⟩ W):
 Code.wp Tryz.prog (efR 9) Q ⟨#[c0,c1,c2,c3,c4,c5,c6,c7,c8,c9,.pointer (some ⟨vb,0,none⟩),bA,.int .i64 (p:Int),bB,bC,bD,bE,bF,bG,bH,bI,bJ,bK,bL,bM,bN,bO,bP,bQ,bR,bS,bT,bU,bW,bX,bY,bZ,b0,b1,b2,b3,b4,b5,b6,b7,b8,b9,ca,cb,cc,cd,ce,cf,cg,ch,ci,cj,ck,de,df,dh,cl,cm,cn,co,cq,cr,ct,cu,cv,cw,cx,cy,cz,cA,cB,cC,cD,cE,cF,cG,cH,cI,cJ,cK,cL,cM,cN,cP,cR,cS,cT,cU,cV,cW,cX,cY,cZ,da,db,aa,ad,ae,af,ag,ah,ai,aj,ak,al,am,an,ao,aq,ar,au,av,aw,ax,ay,az,aA,aB,aC,aD,aE,aF,aG,aH,aI,aJ,aK,aL,aM,aN,aO,aP,aQ,aR,aS,aT,aU,aV,aW,aX,aY,aZ,a0,a1,a2,a3,a4,a5,a6,a7,a8,a9,ba,bb,bd,be,bf,bg,bh,bi,bj,bk,bm,bn,bo,bp,bq,br,bs,bt,bu,bv,bw],[]⟩ w:=by
 conv=>arg 2;whnf
 conv=>arg 4;zeta
 replace h:=zh h;have bx:Hid (Below w.heap.size w w.drew):=(zI _ w).drew;have kn:=zh (fun W hW=>S9 1 1 (by decide +kernel) (by omega) W hW);have dj:Hid (w.drew.cell? ⟨vb,0,none⟩=some (.map (some mb))):=(hV.below (zI _ w).drew).x.c0;replace hE:=zh hE;replace hV:=zh hV;refine xf ?_;refine xR (S:=fun W=>W.cell? ⟨vb,0,none⟩=some (.map (some mb))) (by kernel_rfl) (dj.o) (fun a=>?_);replace a:=zh a;refine tkeF (v:=?_) 0 rfl (a.o) (Or.inl ⟨by rfl,?_⟩) ?_;rotate_left
 . (intro w bz;obtain q1:=bz;go_simp<;>with_reducible rfl)
 try simp only[Act.put,zB]
 refine tkeF (v:=?_) 1 rfl (a.o) (Or.inl ⟨by rfl,?_⟩) ?_;rotate_left
 . (intro w bz;obtain q1:=bz;go_simp<;>with_reducible rfl)
 try simp only[Act.put]
 refine zT (rs:=[2]) (by kernel_rfl) (by simp) ?_;refine zL (o:=_) rfl (fun K hK=>?_) ?_
 .go_simp;refine(kn.o _ (hE.o.below bx.o)).mono ?_;rintro e W2 ⟨rfl,hb⟩;have dc:Hid (Below w.heap.size w W2):=bx.o.trans (hb.mono bx.o.size);have dd:Hid (VMC W2 vb mb n val C):=hV.o.below dc.o;clear hb;refine hK.o _ _ (dd.o.x.c0) (fun _=>?_);clear hK K
  try simp only[Act.put,zB,zE,zC]
  obtain⟨W3,dk,d,hg⟩:=Oo dd.o hC hp 1;have di:Hid (Kp [mb] w W3):=((Kp.refl [mb] w).below dc.o).grown hg (fun b e=>.inl (by cases e;simp));replace d:=zh d;clear hg;refine zT (rs:=[3]) (by kernel_rfl) (by simp) ?_;refine zL (o:=_) rfl (fun K hK=>?_) ?_
  .go_simp;refine hK.o _ _ (d.o.x.c0) (fun _=>?_);clear hK K
   try simp only[Act.put,zB,zE,zC]
   refine xZ (by kernel_rfl) ?_ _;refine xM ?_;exact h.o _ _ _ _ d di
  exact zQ
 exact zQ
theorem WJ{c0 c1 c2 c3 c4 c5 c6 c7 c8 c9 bB bC bD bE bF bG bH bI bJ bK bL bM bN bO bP bQ bR bS bT bU bW bX bY bZ b0 b1 b2 b3 b4 b5 b6 b7 b8 b9 ca cb cc cd ce cf cg ch ci cj ck cl cm cn co cq cr ct cv cw cx cy cz cA cB cC cD cE cF cG cH cI cJ cK cL cM cN cP cR cS cT cU cV cW cX cY cZ da db dc dd de af ag ah ai aj ak al am an ao aq ar au av aw ax ay az aA aB aC aD aE aF aG aH aI aJ aK aL aM aN aO aP aQ aR aS aT aU aV aW aX aY aZ a0 a1 a2 a3 a4 a5 a6 a7 a8 a9 ba bb bd be bf bg bh bi bj bk bm bn bo bp bq br bs bt bu bv bw bx bz bA:Value}{Q:Exit->Act->World->Prop}(vb mb n C p xb ub uo m cu i lb:Nat)(q:Rat)(val:Nat->Rat)(w:World)(hV:VMC w vb mb n val C)(hC:C<100000)(hp:p<100000)(hi:i<m)(hx:w.cell? ⟨xb,0,none⟩=some (.slice (some ⟨ub,uo,none⟩) m cu))(dh:xb<w.heap.size)(hu:w.cell? ⟨ub,uo+i,none⟩=some (.int .i64 (p:Int)))(df:ub<w.heap.size)(hl:Bk w lb 34 [.bool (rq q).1,.string (rq q).2.1,.string (rq q).2.2])(n1:xb≠mb)(n2:ub≠mb)(n3:lb≠mb)
 (h:∀(u150 u151 u152 u153 u154 u155 u156 u157 u158:Value)(W:World)(_:Hid (VMC W vb mb n (fun x=>if x=p then q else val x) (C+1)))(_:Hid (Kp [mb] w W)),Q .normal ⟨#[c0,c1,c2,c3,c4,c5,c6,c7,c8,c9,.pointer (some ⟨vb,0,none⟩),bB,bC,bD,bE,bF,bG,bH,bI,bJ,bK,bL,.pointer (some ⟨xb,0,none⟩),bM,bN,.int .i64 (i:Int),.pointer (some ⟨lb,0,none⟩),bO,bP,bQ,bR,bS,bT,bU,bW,bX,bY,bZ,b0,b1,b2,b3,b4,b5,b6,b7,b8,b9,ca,cb,cc,cd,ce,cf,cg,ch,ci,cj,ck,cl,cm,cn,co,cq,cr,ct,cv,cw,cx,cy,cz,cA,cB,cC,cD,cE,cF,cG,cH,cI,cJ,cK,cL,cM,cN,cP,cR,cS,cT,cU,cV,cW,cX,cY,cZ,da,db,dc,dd,de,af,ag,ah,ai,aj,ak,al,am,an,ao,aq,ar,au,av,aw,ax,ay,az,aA,aB,aC,aD,aE,aF,aG,aH,aI,aJ,aK,aL,aM,aN,aO,aP,aQ,aR,aS,aT,aU,aV,aW,aX,aY,aZ,a0,a1,a2,a3,a4,a5,u150,u151,u152,u153,u154,u155,u156,u157,u158,a6,a7,a8,a9,ba,bb,bd,be,bf,bg,bh,bi,bj,bk,bm,bn,bo,bp,bq],[]⟩ W):
 Code.wp Tryz.prog (efR 40) Q ⟨#[c0,c1,c2,c3,c4,c5,c6,c7,c8,c9,.pointer (some ⟨vb,0,none⟩),bB,bC,bD,bE,bF,bG,bH,bI,bJ,bK,bL,.pointer (some ⟨xb,0,none⟩),bM,bN,.int .i64 (i:Int),.pointer (some ⟨lb,0,none⟩),bO,bP,bQ,bR,bS,bT,bU,bW,bX,bY,bZ,b0,b1,b2,b3,b4,b5,b6,b7,b8,b9,ca,cb,cc,cd,ce,cf,cg,ch,ci,cj,ck,cl,cm,cn,co,cq,cr,ct,cv,cw,cx,cy,cz,cA,cB,cC,cD,cE,cF,cG,cH,cI,cJ,cK,cL,cM,cN,cP,cR,cS,cT,cU,cV,cW,cX,cY,cZ,da,db,dc,dd,de,af,ag,ah,ai,aj,ak,al,am,an,ao,aq,ar,au,av,aw,ax,ay,az,aA,aB,aC,aD,aE,aF,aG,aH,aI,aJ,aK,aL,aM,aN,aO,aP,aQ,aR,aS,aT,aU,aV,aW,aX,aY,aZ,a0,a1,a2,a3,a4,a5,br,bs,bt,bu,bv,bw,bx,bz,bA,a6,a7,a8,a9,ba,bb,bd,be,bf,bg,bh,bi,bj,bk,bm,bn,bo,bp,bq],[]⟩ w:=by
 conv=>arg 2;whnf
 conv=>arg 4;zeta
 replace h:=zh h;have di:Hid (w.drew.cell? ⟨vb,0,none⟩=some (.map (some mb))/\w.drew.cell? ⟨xb,0,none⟩=some (.slice (some ⟨ub,uo,none⟩) m cu)/\w.drew.cell? ⟨ub,uo+i,none⟩=some (.int .i64 (p:Int))/\w.drew.cell? ⟨lb,0,none⟩=some (.bool (rq q).1)/\w.drew.cell? ⟨lb,1,none⟩=some (.string (rq q).2.1)/\w.drew.cell? ⟨lb,2,none⟩=some (.string (rq q).2.2)):=⟨hV.x.c0,hx,hu,hl.c0,hl.c1,hl.c2⟩;have j0:(0:Int)<=(i:Int):=by omega
 have j1:(i:Int)<(m:Int):=by omega
 obtain⟨W3,dk,ae,hg⟩:=Oo (w:=w.drew) (hV.below (zI _ w).drew) hC hp q;have ad:Hid (Kp [mb] w W3):=((Kp.refl [mb] w).drew).grown hg (fun b e=>.inl (by cases e;simp));have dj:Hid (W3.cell? ⟨vb,0,none⟩=some (.map (some mb))/\W3.cell? ⟨xb,0,none⟩=some (.slice (some ⟨ub,uo,none⟩) m cu)/\W3.cell? ⟨ub,uo+i,none⟩=some (.int .i64 (p:Int))/\W3.cell? ⟨lb,0,none⟩=some (.bool (rq q).1)/\W3.cell? ⟨lb,1,none⟩=some (.string (rq q).2.1)/\W3.cell? ⟨lb,2,none⟩=some (.string (rq q).2.2)):=⟨ae.x.c0,(zR (a:=⟨xb,0,none⟩) (ad.o.block xb dh (by simpa using n1))).trans hx,(zR (a:=⟨ub,uo+i,none⟩) (ad.o.block ub df (by simpa using n2))).trans hu,(hl.kp ad.o (by simpa using n3)).c0,(hl.kp ad.o (by simpa using n3)).c1,(hl.kp ad.o (by simpa using n3)).c2⟩;have dq:xb<w.drew.heap.size:=dh;have ul1:ub<w.drew.heap.size:=df;have dl:lb<w.drew.heap.size:=hl.lt;replace hV:=zh hV;replace hl:=zh hl;replace ae:=zh ae;replace hx:=zh hx;replace hu:=zh hu;clear hg;refine xf ?_;refine xR (S:=fun W=>W.cell? ⟨vb,0,none⟩=some (.map (some mb))/\W.cell? ⟨xb,0,none⟩=some (.slice (some ⟨ub,uo,none⟩) m cu)/\W.cell? ⟨ub,uo+i,none⟩=some (.int .i64 (p:Int))/\W.cell? ⟨lb,0,none⟩=some (.bool (rq q).1)/\W.cell? ⟨lb,1,none⟩=some (.string (rq q).2.1)/\W.cell? ⟨lb,2,none⟩=some (.string (rq q).2.2)) (by kernel_rfl) (di.o) (fun aa=>?_);replace aa:=zh aa;refine tkeF (v:=?_) 0 rfl (aa.o) (Or.inl ⟨by rfl,?_⟩) ?_;rotate_left
 . (intro w d;obtain⟨q1,q2,q3,q4,q5,q6⟩:=d;go_simp<;>with_reducible rfl)
 try simp only[Act.put,zB]
 refine tkeF (v:=?_) 1 rfl (aa.o) (Or.inl ⟨by rfl,?_⟩) ?_;rotate_left
 . (intro w d;obtain⟨q1,q2,q3,q4,q5,q6⟩:=d;go_simp<;>with_reducible rfl)
 try simp only[Act.put]
 refine tkeF (v:=?_) 2 rfl (aa.o) (Or.inl ⟨by rfl,?_⟩) ?_;rotate_left
 . (intro w d;obtain⟨q1,q2,q3,q4,q5,q6⟩:=d;go_simp<;>with_reducible rfl)
 try simp only[Act.put]
 refine tkeF (v:=?_) 3 rfl (aa.o) (Or.inl ⟨by rfl,?_⟩) ?_;rotate_left
 . (intro w d;obtain⟨q1,q2,q3,q4,q5,q6⟩:=d;go_simp<;>with_reducible rfl)
 try simp only[Act.put]
 refine tkeF (v:=?_) 4 rfl (aa.o) (Or.inl ⟨by rfl,?_⟩) ?_;rotate_left
 . (intro w d;obtain⟨q1,q2,q3,q4,q5,q6⟩:=d;go_simp<;>with_reducible rfl)
 try simp only[Act.put]
 refine tkeF (v:=?_) 5 rfl (aa.o) (Or.inl ⟨by rfl,?_⟩) ?_;rotate_left
 . (intro w d;obtain⟨q1,q2,q3,q4,q5,q6⟩:=d;go_simp<;>with_reducible rfl)
 try simp only[Act.put]
 refine tkeF (v:=?_) 6 rfl (aa.o) (Or.inl ⟨by rfl,?_⟩) ?_;rotate_left
 . (intro w d;obtain⟨q1,q2,q3,q4,q5,q6⟩:=d;go_simp<;>with_reducible rfl)
 try simp only[Act.put]
 refine tkeF (v:=?_) 7 rfl (aa.o) (Or.inl ⟨by rfl,?_⟩) ?_;rotate_left
 . (intro w d;obtain⟨q1,q2,q3,q4,q5,q6⟩:=d;go_simp<;>with_reducible rfl)
 try simp only[Act.put]
 refine tkeF (v:=?_) 8 rfl (aa.o) (Or.inl ⟨by rfl,?_⟩) ?_;rotate_left
 . (intro w d;obtain⟨q1,q2,q3,q4,q5,q6⟩:=d;go_simp<;>with_reducible rfl)
 try simp only[Act.put]
 refine zT (rs:=[9]) (by kernel_rfl) (by simp) ?_;refine zL (o:=_) rfl (fun K hK=>?_) ?_
 .go_simp;refine hK.o _ _ (dj.o) (fun _=>?_);clear hK K
  try simp only[Act.put,zB,zE,zC]
  refine xZ (by kernel_rfl) ?_ _;refine xM ?_;exact h.o _ _ _ _ _ _ _ _ _ _ ae ad
 exact zQ
end Sh
end
section
namespace Ci
def En(E:List (Nat×Nat)):Nat->Nat->Nat->Prop
 |0,i,j=>i=j\/(i,j)∈E
 |k+1,i,j=>En E k i j\/(En E k i k/\En E k k j)
section
variable {E:List (Nat×Nat)} {n i j k m:Nat}
theorem J2:∀k,En E k i i
 |0=>.inl rfl
 |k+1=>.inl (J2 k)
theorem Oq:En E (k+1) i k<->En E k i k:=⟨fun h=>h.elim id fun h=>h.1,.inl⟩
theorem L5:En E (k+1) k j<->En E k k j:=⟨fun h=>h.elim id fun h=>h.2,.inl⟩
theorem Nm:∀k m i j,m<k->En E k i m->En E k m j->En E k i j:=by
 intro k
 induction k with
 |zero=>intro m i j h;omega
 |succ k ih=>
  intro m i j hm h1 h2
  by_cases e:m=k
  .subst e;exact .inr ⟨Oq.1 h1,L5.1 h2⟩
  have a:m<k:=by omega
  rcases h1 with h1|⟨h1,h3⟩
  .rcases h2 with h2|⟨h2,h4⟩
   .exact .inl (ih m i j a h1 h2)
   exact .inr ⟨ih m i k a h1 h2,h4⟩
  rcases h2 with h2|⟨_,h4⟩
  .exact .inr ⟨h1,ih m k j a h3 h2⟩
  exact .inr ⟨h1,h4⟩
theorem Nn:∀k i j,En E k i j->Reach E i j:=by
 intro k
 induction k with
 |zero=>
  rintro i j (rfl|h)
  .exact .refl _
  exact .one h
 |succ k ih=>
  rintro i j (h|⟨h1,h2⟩)
  .exact ih i j h
  exact(ih i k h1).trans (ih k j h2)
theorem J3(h:En E 0 i j):∀k,En E k i j
 |0=>h
 |k+1=>.inl (J3 h k)
theorem SA(hE:InN n E):En E n i j<->Reach E i j:=by
 constructor
 .exact Nn n i j
 intro h;refine h.closed (C:=fun x=>En E n i x) (J2 n) fun a b ha e=>?_;exact Nm n a i b (hE _ e).1 ha (J3 (.inr e) n)
def Tab(E:List (Nat×Nat))(n k i j:Nat)(T:Nat->Nat->Prop):Prop :=
 ∀a b,a<n->b<n->(T a b<->if a<i\/(a=i/\b<j) then En E (k+1) a b else En E k a b)
theorem Tab.row{T:Nat->Nat->Prop}(h:Tab E n k i j T)(hk:k<n){a:Nat}(ha:a<n):T a k<->En E k a k:=by
 rw[h a k ha hk]
 split
 .exact Oq
 exact vw
theorem Tab.col{T:Nat->Nat->Prop}(h:Tab E n k i j T)(hk:k<n){b:Nat}(hb:b<n):T k b<->En E k k b:=by
 rw[h k b hk hb]
 split
 .exact L5
 exact vw
theorem Tab.step{T T':Nat->Nat->Prop}(h:Tab E n k i j T)(hk:k<n)(hi:i<n)(hj:j<n)(hT:∀a b,T' a b<->T a b\/(a=i/\b=j/\T i k/\T k j)):Tab E n k i (j+1) T':=by
 intro a b ha hb;rw[hT]
 by_cases e:a=i/\b=j
 .obtain⟨rfl,rfl⟩:=e;rw[zG (by omega),h.row hk ha,h.col hk hb,h a b ha hb,zF (by omega)];exact⟨fun c=>c.elim .inl fun c=>.inr c.2.2,fun c=>c.elim .inl fun c=>.inr ⟨rfl,rfl,c⟩⟩
 rw[h a b ha hb];have e2:¬(a=i/\b=j/\T i k/\T k j):=fun c=>e ⟨c.1,c.2.1⟩
 by_cases c:a<i\/(a=i/\b<j)
 .rw[zG c,zG (by omega)];exact⟨fun x=>x.elim id fun y=>absurd y e2,.inl⟩
 rw[zF c,zF (by omega)];exact⟨fun x=>x.elim id fun y=>absurd y e2,.inl⟩
theorem Tab.next{T:Nat->Nat->Prop}(h:Tab E n k i n T):Tab E n k (i+1) 0 T:=by
 intro a b ha hb;rw[h a b ha hb]
 by_cases c:a<i\/(a=i/\b<n)
 .rw[zG c,zG (by omega)]
 rw[zF c,zF (by omega)]
theorem Tab.round{T:Nat->Nat->Prop}(h:Tab E n k n 0 T):Tab E n (k+1) 0 0 T:=by
 intro a b ha hb;rw[h a b ha hb,zG (.inl ha),zF (by omega)]
theorem Tab.end{T:Nat->Nat->Prop}(h:Tab E n n 0 0 T)(hE:InN n E){a b:Nat}(ha:a<n)(hb:b<n):T a b<->Reach E a b:=by
 rw[h a b ha hb,zF (by omega)];exact SA hE
end
end Ci
end
section
namespace Ci
open Classical
section
variable {E:List (Nat×Nat)} {n p q x:Nat}
def L6(E:List (Nat×Nat)):List (Nat×Nat):=E.map fun e=>(e.2,e.1)
theorem EX:(p,q)∈L6 E<->(q,p)∈E:=by
 unfold L6;rw[vX];constructor
 .rintro⟨⟨a,b⟩,h,e⟩;simp only[Prod.mk.injEq]at e;rw[<-e.1,<-e.2];exact h
 exact fun h=>⟨(q,p),h,rfl⟩
theorem Ut(h:InN n E):InN n (L6 E):=fun x hx=>by
 obtain⟨a,b⟩:=x;have:=h _ (EX.1 hx);exact⟨this.2,this.1⟩
theorem No(h:Reach E p q):Reach (L6 E) q p :=
 h.closed (C:=fun x=>Reach (L6 E) x p) (.refl p) fun _ _ ha e=>(Reach.one (EX.2 e)).trans ha
theorem J4:Reach (L6 E) p q<->Reach E q p:=⟨fun h=>h.closed (C:=fun x=>Reach E x p) (.refl p) fun _ _ ha e=>(Reach.one (EX.1 e)).trans ha,No⟩
def PL(E:List (Nat×Nat))(p q x:Nat):Prop:=fst E x<p\/(Mut E p x/\x<q)
noncomputable def lsO(E:List (Nat×Nat))(n p x:Nat):List Nat:=if x<p/\fst E x=x then CX n E x else []
noncomputable def Ai(E:List (Nat×Nat))(p q:Nat):List Nat:=(List.range q).filter fun y=>decide (Mut E p y)
noncomputable def lsQ(E:List (Nat×Nat))(n p q x:Nat):List Nat:=if x=p then Ai E p q else lsO E n p x
noncomputable def cO(E:List (Nat×Nat))(p:Nat):Nat:=((List.range p).filter fun y=>decide (fst E y=y)).length
noncomputable def cQ(E:List (Nat×Nat))(p q:Nat):Nat:=if Ai E p q=[] then cO E p else cO E p+1
theorem Ot(hp:p<n):CX n E p≠[]:=fun h=>by
 have:=CS.2 ⟨hp,Mut.refl (E:=E) p⟩;rw[h]at this
 cases this
theorem J5:Ai E p 0=[]:=rfl
theorem Fp:Ai E p (q+1)=if Mut E p q then Ai E p q++[q] else Ai E p q:=by
 unfold Ai;rw[xz,xp,xJ]
 by_cases h:Mut E p q
 .rw[zG h,zG (zH h)];rfl
 rw[zF h,zF (by rw[zD h];simp)];simp
theorem L7:Ai E p n=CX n E p:=rfl
theorem Eo:lsQ E n p 0 x=lsO E n p x:=by
 unfold lsQ
 by_cases e:x=p
 .rw[zG e,J5];unfold lsO;rw[zF (by omega)]
 rw[zF e]
theorem SB(h:¬Mut E p q):lsQ E n p (q+1) x=lsQ E n p q x:=by
 unfold lsQ;rw[Fp,zF h]
theorem SD(h:Mut E p q):lsQ E n p (q+1) x=if x=p then lsQ E n p q x++[q] else lsQ E n p q x:=by
 unfold lsQ;rw[Fp,zG h]
 by_cases e:x=p
 .rw[zG e,zG e,zG e]
 rw[zF e,zF e,zF e]
theorem Gn:cQ E p 0=cO E p:=zG rfl
theorem Uu(h:¬Mut E p q):cQ E p (q+1)=cQ E p q:=by unfold cQ;rw[Fp,zF h]
theorem Uv(h:Mut E p q):cQ E p (q+1)=if lsQ E n p q p=[] then cQ E p q+1 else cQ E p q:=by
 unfold cQ lsQ;rw[Fp,zG h,zF (by simp),zG rfl]
 by_cases e:Ai E p q=[]
 .rw[zG e,zG e]
 rw[zF e,zF e]
theorem Ki(h:¬Mut E p q):PL E p (q+1) x<->PL E p q x:=by
 unfold PL;constructor
 .rintro(a|⟨a,b⟩)
  .exact .inl a
  by_cases e:x=q
  .subst e;exact absurd a h
  exact .inr ⟨a,by omega⟩
 rintro(a|⟨a,b⟩)
 .exact .inl a
 exact .inr ⟨a,by omega⟩
theorem Hw(h:Mut E p q):PL E p (q+1) x<->PL E p q x\/x=q:=by
 unfold PL;constructor
 .rintro(a|⟨a,b⟩)
  .exact .inl (.inl a)
  by_cases e:x=q
  .exact .inr e
  exact .inl (.inr ⟨a,by omega⟩)
 rintro((a|⟨a,b⟩)|e)
 .exact .inl a
 .exact .inr ⟨a,by omega⟩
 subst e;exact .inr ⟨h,by omega⟩
theorem EA:PL E p 0 x<->fst E x<p:=⟨fun h=>h.elim id fun h=>absurd h.2 (yJ _),.inl⟩
theorem SE:PL E p 0 p<->fst E p≠p:=by
 have:=JF (Mut.refl (E:=E) p);rw[EA];omega
theorem Np(h:fst E p≠p):PL E (p+1) 0 x<->PL E p 0 x:=by
 rw[EA,EA];constructor
 .intro h1
  by_cases e:fst E x=p
  .exact absurd (by rw[<-e,FP]) h
  omega
 omega
theorem Kj(h:fst E p=p)(hx:x<n):PL E (p+1) 0 x<->PL E p n x:=by
 rw[EA];unfold PL;constructor
 .intro h1
  by_cases e:fst E x=p
  .exact .inr ⟨Hn.1 (by rw[e,h]),hx⟩
  exact .inl (by omega)
 rintro(a|⟨a,_⟩)
 .omega
 have:=FA a;omega
theorem Uw(h:fst E p≠p):lsO E n (p+1) x=lsO E n p x:=by
 unfold lsO
 by_cases e:x<p/\fst E x=x
 .rw[zG e,zG ⟨by omega,e.2⟩]
 rw[zF e,zF];rintro⟨a,b⟩
 by_cases c:x=p
 .subst c;exact h b
 exact e ⟨by omega,b⟩
theorem SF(h:fst E p=p):lsO E n (p+1) x=lsQ E n p n x:=by
 unfold lsO lsQ
 by_cases e:x=p
 .subst e;rw[zG rfl,zG ⟨by omega,h⟩,L7]
 rw[zF e];unfold lsO
 by_cases c:x<p/\fst E x=x
 .rw[zG c,zG ⟨by omega,c.2⟩]
 rw[zF c,zF fun d=>c ⟨by omega,d.2⟩]
theorem Ou:cO E (p+1)=if fst E p=p then cO E p+1 else cO E p:=by
 unfold cO;rw[xz,xp,zX,xJ]
 by_cases h:fst E p=p
 .rw[zG h,zG (zH h)];rfl
 rw[zF h,zF (by rw[zD h];simp)];simp
theorem Ux(h:fst E p=p)(hp:p<n):cQ E p n=cO E (p+1):=by
 rw[Ou,zG h];unfold cQ;rw[L7,zF (Ot hp)]
theorem VD:cO E n=(leasts n E).length:=rfl
theorem Wu:cO E p<=p:=by
 have:=yS (fun y=>decide (fst E y=y)) (List.range p);rw[yZ]at this;exact this
theorem Wv:cQ E p q<=p+1:=by
 unfold cQ;have:=Wu (E:=E) (p:=p)
 split<;>omega
theorem Ov(hx:x<n):lsO E n n x=if x∈leasts n E then CX n E x else []:=by
 unfold lsO
 by_cases h:fst E x=x
 .rw[zG ⟨hx,h⟩,zG (B4.2 ⟨hx,h⟩)]
 rw[zF fun c=>h c.2,zF fun c=>h (B4.1 c).2]
theorem VE(hx:x<n):PL E n 0 x:=EA.2 (Gu hx)
end
end Ci
end
section
open Go.RowKit Go.Shelf
namespace Ci
open Nt
def SH(W:World)(A:Option Addr)(l:List (Option Addr×Nat×List Int)):Prop :=
 0<l.length->∃b off,A=some ⟨b,off,none⟩/\b<W.heap.size/\∀j (h:j<l.length),W.cell? ⟨b,off+j,none⟩=some (.slice l[j].1 l[j].2.2.length l[j].2.1)/\InInt W l[j].1 l[j].2.2/\l[j].2.2.length<=140737488355328
def bare(l:List (Option Addr×Nat×List Int)):List (List Int):=l.map fun x=>x.2.2
end Ci
end
section
open Go.RowKit Go.Shelf
namespace Ci
open Nt
open Classical
structure P1(E:List (Nat×Nat))(n:Nat)(w0:World)(S p q:Nat)(v:Nat->Value)(F:Nat->Int)(wr:World):Prop where
 kp:Kp [S,S+1,S+1+1] w0 wr
 lm:LM wr w0.heap.size S n (cQ E p q) v (lsQ E n p q)
 pl:∃c f,MapK Tryz.prog 3 κi wr (S+1+1) c f/\c<=1000*p+q/\∀x:Nat,x<n->f (x:Int)=if PL E p q x then some (.bool true) else none
 ro:RoI wr (S+1) n F
 fs:∀x,x<n->PL E p q x->F x=(fst E x:Int)
section
variable {E:List (Nat×Nat)} {n p q S:Nat} {w0 wr w':World} {v:Nat->Value} {F:Nat->Int}
theorem LM.congr{w:World}{B mb c c':Nat}{ls ls':Nat->List Nat}(h:LM w B mb n c v ls)(e:∀x,ls x=ls' x)(ec:c=c'):LM w B mb n c' v ls':=by
 obtain rfl:ls=ls':=funext e;subst ec;exact h
theorem P1.below(h:P1 E n w0 S p q v F wr)(hb:Below wr.heap.size wr w'):P1 E n w0 S p q v F w':=by
 obtain⟨c,f,h1,h2⟩:=h.pl;exact⟨h.kp.below hb,h.lm.below hb,⟨c,f,h1.below hb,h2⟩,h.ro.below hb,h.fs⟩
theorem P1.had(h:P1 E n w0 S p 0 v F wr)(hp:fst E p≠p):P1 E n w0 S (p+1) 0 v F wr:=by
 obtain⟨c,f,h1,h2,h3⟩:=h.pl;refine⟨h.kp,h.lm.congr (fun x=>?_) ?_,⟨c,f,h1,by omega,fun x hx=>?_⟩,h.ro,fun x hx hP=>h.fs x hx ((Np hp).1 hP)⟩
 .rw[Eo,Eo,Uw hp]
 .rw[Gn,Gn,Ou,zF hp]
 rw[h3 x hx]
 by_cases e:PL E p 0 x
 .rw[zG e,zG ((Np hp).2 e)]
 rw[zF e,zF fun c=>e ((Np hp).1 c)]
theorem P1.next(h:P1 E n w0 S p n v F wr)(hp:fst E p=p)(a:p<n)(hn:n<=1000):P1 E n w0 S (p+1) 0 v F wr:=by
 obtain⟨c,f,h1,h2,h3⟩:=h.pl;refine⟨h.kp,h.lm.congr (fun x=>?_) ?_,⟨c,f,h1,by omega,fun x hx=>?_⟩,h.ro,fun x hx hP=>h.fs x hx ((Kj hp hx).1 hP)⟩
 .rw[Eo,SF hp]
 .rw[Gn,Ux hp a]
 rw[h3 x hx]
 by_cases e:PL E p n x
 .rw[zG e,zG ((Kj hp hx).2 e)]
 rw[zF e,zF fun c=>e ((Kj hp hx).1 c)]
theorem P1.skip(h:P1 E n w0 S p q v F wr)(hm:¬Mut E p q):P1 E n w0 S p (q+1) v F wr:=by
 obtain⟨c,f,h1,h2,h3⟩:=h.pl;refine⟨h.kp,h.lm.congr (fun x=>(SB hm).symm) (Uu hm).symm,⟨c,f,h1,by omega,fun x hx=>?_⟩,h.ro,fun x hx hP=>h.fs x hx ((Ki hm).1 hP)⟩;rw[h3 x hx]
 by_cases e:PL E p q x
 .rw[zG e,zG ((Ki hm).2 e)]
 rw[zF e,zF fun c=>e ((Ki hm).1 c)]
theorem P1.look(h:P1 E n w0 S p 0 v F wr)(d:p<n)(hn:n<=1000):(Instr.lookup 107 (.map (some (S+1+1))) (.int .i64 (p:Int)) false).run Tryz.prog wr=.ok (.bool (bV (fst E p≠p))) wr:=by
 obtain⟨c,f,h1,_,h3⟩:=h.pl;have:=h1.look FI Tryz.underlying107 (Oi wr) (EG Tryz.underlying3 (a:=(p:Int)) (by omega) (by omega));rw[this,h3 p d]
 by_cases e:fst E p≠p
 .rw[zG (SE.2 e),C6 e];rfl
 rw[zF fun c=>e (SE.1 c),Cb e];rfl
theorem ReachM.look{mb:Nat}{w:World}(h:ReachM w n mb E p)(hq:q<n)(hn:n<=1000):(Instr.lookup 107 (.map (some mb)) (.int .i64 (q:Int)) false).run Tryz.prog w=.ok (.bool (bV (Reach E p q))) w:=by
 obtain⟨c,f,h1,h3⟩:=h;have:=h1.look FI Tryz.underlying107 (Oi w) (EG Tryz.underlying3 (a:=(q:Int)) (by omega) (by omega));rw[this,h3 q hq]
 by_cases e:Reach E p q
 .rw[zG e,C6 e];rfl
 rw[zF e,Cb e];rfl
theorem ReachM.below{mb:Nat}{w:World}(h:ReachM w n mb E p)(hb:Below w.heap.size w w'):ReachM w' n mb E p:=by
 obtain⟨c,f,h1,h3⟩:=h;exact⟨c,f,h1.below hb,h3⟩
theorem ReachM.kp{mb:Nat}{xs:List Nat}{w:World}(h:ReachM w n mb E p)(hk:Kp xs w w')(hm:mb∉xs):ReachM w' n mb E p:=by
 obtain⟨c,f,h1,h3⟩:=h;exact⟨c,f,h1.kp hk hm,h3⟩
theorem P1.start(E:List (Nat×Nat))(n:Nat)(wS:World)(t:TypeId):
 P1 E n (((wS.alloc (.map #[] 0)).alloc (.cells (madeCells #[.int .i64 0] n) t)).alloc (.map #[] 0)) wS.heap.size 0 0 (fun _=>.slice none 0 0) (fun _=>0) (((wS.alloc (.map #[] 0)).alloc (.cells (madeCells #[.int .i64 0] n) t)).alloc (.map #[] 0)):=by
 have s1:(wS.alloc (.map #[] 0)).heap.size=wS.heap.size+1:=by simp
 have s2:((wS.alloc (.map #[] 0)).alloc (.cells (madeCells #[.int .i64 0] n) t)).heap.size=wS.heap.size+1+1:=by simp
 have hR:=(RoI.made (wS.alloc (.map #[] 0)) n t).alloc (.map #[] 0);rw[s1]at hR;have hM:=MapK.made ((wS.alloc (.map #[] 0)).alloc (.cells (madeCells #[.int .i64 0] n) t)) Tryz.prog 3 κi;rw[s2]at hM;refine⟨Kp.refl _ _,(((LM.made wS _ n).alloc _).alloc _).congr (fun x=>?_) ?_,⟨0,_,hM,zP _,fun x _=>?_⟩,hR,fun x _ hP=>?_⟩
 .rw[Eo];unfold lsO;rw[zF (by omega)]
 .rw[Gn];rfl
 .rw[zF fun c=>by have:=EA.1 c;omega]
 have:=EA.1 hP;omega
theorem P1.step(h:P1 E n w0 S p q v F wr)(aq:w0.heap.size=S+3)(hm:Mut E p q)(ae:p<n)(ao:q<n)(hn:n<=1000)(an:fst E p=p):
 ∃ W1,(Instr.mapUpdate 107 (.map (some (S+1+1))) (.int .i64 (q:Int)) (.bool true)).run Tryz.prog wr=.ok () W1/\W1.heap.size=W1.heap.size/\RoI W1 (S+1) n F /\
  (∀ W2,W2=W1.setCell ⟨S+1,q,none⟩ (.int .i64 (p:Int))->(Instr.lookup 106 (.map (some S)) (.int .i64 (p:Int)) false).run Tryz.prog W2=.ok (v p) W2/\wr.heap.size<=W2.heap.size /\
    ∀ W3,W3=W2.alloc (.cells #[.int .i64 (q:Int)] 3)->W3.ownsRow w0.heap.size 3 1 (v p) (lsQ E n p q p).length (Ca (lsQ E n p q p)) /\
     ∀ vb wb,wb.ownsRow w0.heap.size 3 1 vb ((lsQ E n p q p).length+1) (Ca (lsQ E n p q p)++[.int .i64 (q:Int)])->W3.grownBy wb (v p).ownBlock->(vb.ownBlock=(v p).ownBlock\/vb.ownBlock=some W3.heap.size) ->
      ∃ W4,(Instr.mapUpdate 106 (.map (some S)) (.int .i64 (p:Int)) vb).run Tryz.prog wb=.ok () W4/\P1 E n w0 S p (q+1) (fun i=>if i=p then vb else v i) (FC F q (p:Int)) W4 /\
       (∀w6,Kp [S,S+1,S+1+1] w6 wr->(∀b,(v p).ownBlock=some b->w6.heap.size<=b)->Kp [S,S+1,S+1+1] w6 W4/\∀b,vb.ownBlock=some b->w6.heap.size<=b)):=by
 obtain⟨c,f,h1,h2,h3⟩:=h.pl;obtain⟨W1,aj,ak,ad⟩:=h1.put Gy FI Tryz.underlying107 (by unfold maxLen;omega) (EG Tryz.underlying3 (a:=(q:Int)) (by omega) (by omega)) (.bool true);have d:∀x b,x<n->(v x).ownBlock=some b->w0.heap.size<=b:=fun x b hx e=>((h.lm.rows x hx).lt b e).1
 have hL1:LM W1 w0.heap.size S n (cQ E p q) v (lsQ E n p q):=h.lm.grown ad (by simp;omega) fun x b hx e e2=>by
  have:=d x b hx e
  cases e2;omega
 have ah:RoI W1 (S+1) n F:=h.ro.grown ad (by simp);refine⟨W1,aj,rfl,ah,?_⟩;rintro W2 rfl
 have hL2:=hL1.set (a:=⟨S+1,q,none⟩) (.int .i64 (p:Int)) (by simp) fun x hx e=>by
  have:=d x _ hx e;simp only at this;omega
 have am:=ah.set ao (p:Int);have al:=ak.set (a:=⟨S+1,q,none⟩) (by simp) (.int .i64 (p:Int));refine⟨hL2.look ae hn,by have:=ad.size;simpa using this,?_⟩;rintro W3 rfl;have hL3:=hL2.alloc (.cells #[.int .i64 (q:Int)] 3);refine⟨hL3.rows p ae,fun vb wb ho hg aa=>?_⟩;have hc:=Wv (E:=E) (p:=p) (q:=q);obtain⟨W4,ag,hL4,af⟩:=hL3.step ae hn (by unfold maxLen;omega) hg ho aa;have hS:∀b,(v p).ownBlock=some b->S+1+1<b:=fun b e=>by have:=d p b ae e;omega
 refine⟨W4,ag,⟨?_,hL4.congr (fun x=>?_) ?_,⟨if (f (q:Int)).isSome then c else c+1,Pe f (q:Int) (some (.bool true)),?_,?_,fun x hx=>?_⟩,?_,fun x hx hP=>?_⟩,fun w6 hk ai=>⟨?_,fun b e=>?_⟩⟩
 .exact((((h.kp.grown ad fun b e=>by cases e;simp).set (a:=⟨S+1,q,none⟩) _ (by simp)).alloc _).grown hg fun b e=>.inr (d p b ae e)).grown af fun b e=>by cases e;simp
 .rw[SD hm];rfl
 .rw[Uv (n:=n) hm]
 .exact((al.alloc _).kept hg fun e=>by have:=hS _ e.symm;omega).kept af (by simp;omega)
 .split<;>omega
 .by_cases e:x=q
  .subst e;rw[Cf,zG ((Hw hm).2 (.inr rfl))]
  rw[BY (fun c=>e (by omega)),h3 x hx]
  by_cases e2:PL E p q x
  .rw[zG e2,zG ((Hw hm).2 (.inl e2))]
  rw[zF e2,zF fun c=>((Hw hm).1 c).elim e2 e]
 .exact((am.alloc _).grown hg fun e=>by have:=hS _ e;omega).grown af (by simp)
 .by_cases e:x=q
  .subst e;rw[Bj,<-FA hm,an]
  rw[AK e];exact h.fs x hx (((Hw hm).1 hP).elim id fun c=>absurd c e)
 .exact((((hk.grown ad fun b e=>by cases e;simp).set (a:=⟨S+1,q,none⟩) _ (by simp)).alloc _).grown hg fun b e=>.inr (ai b e)).grown af fun b e=>by cases e;simp
 rcases aa with aa|aa
 .exact ai b (by rw[<-aa,e])
 rw[e]at aa;have h1:=hk.size;have h2:=ad.size;simp only[Option.some.injEq,zK,World.size_setCell]at aa;omega
end
structure P2(E:List (Nat×Nat))(n:Nat)(w7:World)(S:Nat)(v:Nat->Value)(pre left:List Nat)(vo:Value)(wr:World):Prop where
 st:Stage n E pre left
 kp:Kp [S] w7 wr
 mp:∃f,MapK Tryz.prog 3 κi wr S left.length f/\∀x:Nat,x<n->f (x:Int)=if x∈left then some (v x) else none
 o:wr.ownsRow w7.heap.size 26 1 vo pre.length (pre.map v)
section
variable {E:List (Nat×Nat)} {n p q S:Nat} {w0 w7 wr w':World} {v:Nat->Value} {F:Nat->Int} {pre left:List Nat} {vo:Value}
theorem P2.start(h:P1 E n w0 S n 0 v F w7)(hE:InN n E):P2 E n w7 S v [] (leasts n E) (.slice none 0 0) w7:=by
 obtain⟨f,h1,h2⟩:=h.lm.map;rw[Gn,VD]at h1;refine⟨Stage.start hE,Kp.refl _ _,⟨f,h1,fun x hx=>?_⟩,yU _ _ _ _⟩;rw[h2 x hx,Eo,Ov hx]
 by_cases e:x∈leasts n E
 .rw[zG e,zG e,zF (Ot hx)]
 rw[zF e,zF e,zG rfl]
theorem P2.pre_nodup(h:P2 E n w7 S v pre left vo wr)(hE:InN n E):pre.Nodup:=by
 have h1:=It hE;rw[h.st.eq]at h1;exact(List.nodup_append.1 h1).1
theorem P2.len(h:P2 E n w7 S v pre left vo wr)(ty:TypeId):(Builtin.len_ #[106] ty #[.map (some S)]).run Tryz.prog wr=.ok (.int .i64 (left.length:Int)) wr:=by
 obtain⟨f,h1,_⟩:=h.mp;exact h1.len Tryz.underlying106 ty
theorem P2.look(h:P2 E n w7 S v pre left vo wr)(hp:p<n)(hn:n<=1000):(Instr.lookup 106 (.map (some S)) (.int .i64 (p:Int)) true).run Tryz.prog wr=.ok (.tuple #[if p∈left then v p else .slice none 0 0,.bool (bV (p∈left))]) wr:=by
 obtain⟨f,h1,h2⟩:=h.mp;have:=h1.look_ok FI Tryz.underlying106 (Si wr) (EG Tryz.underlying3 (a:=(p:Int)) (by omega) (by omega));rw[this,h2 p hp]
 by_cases e:p∈left
 .rw[zG e,zG e,C6 e];rfl
 rw[zF e,zF e,Cb e];rfl
theorem P2.step(h:P2 E n w7 S v pre left vo wr)(hp:Fs E left=some p)(ah:p<n)(hn:n<=1000)(hS:S<w7.heap.size):
 (wr.alloc (.cells #[v p] 26)).ownsRow w7.heap.size 26 1 vo pre.length (pre.map v)/\w7.heap.size<=(wr.alloc (.cells #[v p] 26)).heap.size /\
 ∀ vb wb,wb.ownsRow w7.heap.size 26 1 vb (pre.length+1) (pre.map v++[v p])->(wr.alloc (.cells #[v p] 26)).grownBy wb vo.ownBlock ->
  ∃W4,(Builtin.delete_ #[106,3] 0 #[.map (some S),.int .i64 (p:Int)]).run Tryz.prog wb=.ok (.tuple #[]) W4/\P2 E n w7 S v (pre++[p]) (left.erase p) vb W4:=by
 have hs:=h.kp.size;obtain⟨ad,_,_⟩:=C9 h.st.ok hp;obtain⟨f,h1,h2⟩:=h.mp;have af:∀b,vo.ownBlock=some b->w7.heap.size<=b:=fun b e=>(h.o.lt b e).1;refine⟨AS h.o ((zI _ wr).alloc (zA _) _),by simp;omega,fun vb wb ho hg=>?_⟩;have ag:∀b,vo.ownBlock=some b->b≠S:=fun b e c=>by have:=af b e;omega
 have hM:=(h1.alloc (.cells #[v p] 26)).kept hg fun e=>ag S e.symm rfl;obtain⟨W4,ae,d,aa⟩:=hM.del Gy FI Tryz.underlying106 (EG Tryz.underlying3 (a:=(p:Int)) (by omega) (by omega)) 0
 have hc:(if (f (p:Int)).isSome then left.length-1 else left.length)=(left.erase p).length:=by
  rw[h2 p ah,zG ad,yp ad];rfl
 rw[hc]at d;refine⟨W4,ae,h.st.step hp,?_,⟨_,d,fun x hx=>?_⟩,?_⟩
 .exact((h.kp.alloc _).grown hg fun b e=>.inr (af b e)).grown aa fun b e=>by cases e;simp
 .by_cases e:x=p
  .subst e;rw[Cf,zF fun c=>(h.st.ok.nodup.mem_erase_iff.1 c).1 rfl]
  rw[BY (fun c=>e (by omega)),h2 x hx]
  by_cases e2:x∈left
  .rw[zG e2,zG ((List.mem_erase_of_ne e).2 e2)]
  rw[zF e2,zF fun c=>e2 ((List.mem_erase_of_ne e).1 c)]
 rw[zX,xG];refine ho.kept aa ?_
 cases hu:vb.ownBlock with
 |none=>exact .inl rfl
 |some b=>exact .inr fun e=>(by have:=(ho.lt b hu).1;cases e;omega)
def slA:Value->Option Addr
 |.slice a _ _=>a
 |_=>none
def slC:Value->Nat
 |.slice _ _ c=>c
 |_=>0
noncomputable def AO(E:List (Nat×Nat))(n:Nat)(v:Nat->Value)(pre:List Nat):List (Option Addr×Nat×List Int):=pre.map fun p=>(slA (v p),slC (v p),(CX n E p).map fun(q:Nat)=>(q:Int))
theorem PN:bare (AO E n v pre)=pre.map fun p=>(CX n E p).map fun(q:Nat)=>(q:Int):=by
 unfold bare AO;rw[xh];rfl
theorem J6{W:World}{base:Nat}{e:TypeId}{u:Value}{l:List Nat}(h:W.ownsRow base e 1 u l.length (Ca l)):u=.slice (slA u) l.length (slC u)/\InInt W (slA u) (l.map fun(q:Nat)=>(q:Int)):=by
 rcases Ek h with⟨rfl,rfl⟩|⟨g,cap,rfl,_,h1,_,h2⟩
 .exact⟨rfl,fun h=>absurd h (by simp)⟩
 refine⟨rfl,fun _=>⟨g,0,rfl,h1,fun j hj=>?_⟩⟩;have a:j<l.length:=by simpa using hj
 rw[yD,h2 j a];simp
theorem SI{W:World}{base base2 c:Nat}{A:Option Addr}(hn:n<=1000)(h:W.ownsRow base 26 1 (.slice A pre.length c) pre.length (pre.map v))(hr:∀p,p∈pre->W.ownsRow base2 3 1 (v p) (CX n E p).length (Ca (CX n E p))):SH W A (AO E n v pre):=fun h0=>by
 have hl:(AO E n v pre).length=pre.length:=by simp[AO]
 rw[hl]at h0
 rcases h.2 with⟨_,h1⟩|⟨g,cap,cur,e,hb,hg,_⟩
 .omega
 injection e with e1 _ _;subst e1;refine⟨g,0,rfl,(Array.getElem?_eq_some_iff.1 hg).1,fun j hj=>?_⟩;have a:j<pre.length:=by omega
 have hc:=h.cells (g:=g) (by simp[Value.ownBlock]) j (v pre[j]) (by simp[a]);rw[Addr.add_lit]at hc;have d:=J6 (hr pre[j] (zN a));have he:(AO E n v pre)[j]=(slA (v pre[j]),slC (v pre[j]),(CX n E pre[j]).map fun(q:Nat)=>(q:Int)):=by simp[AO]
 rw[he];refine⟨?_,d.2,?_⟩
 .rw[hc];simp only[zU];rw[<-d.1]
 simp only[zU];unfold CX;have h:=yS (fun q=>decide (Mut E pre[j] q)) (List.range n);rw[yZ]at h;omega
end
end Ci
end
end Go.Proofs.YtmfjbpcecpgchaaGreatDoor

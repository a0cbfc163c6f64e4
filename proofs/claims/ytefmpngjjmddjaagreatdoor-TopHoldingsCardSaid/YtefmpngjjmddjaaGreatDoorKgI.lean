/- Parts of the proof. -/
import Derived.Test.YtefmpngjjmddjaaGreatDoorKgH
set_option maxHeartbeats 32000000
set_option maxRecDepth 100000
open Go.Proofs.Tryz
namespace Go.Proofs.YtefmpngjjmddjaaGreatDoor
section
open Go.RowKit Go.Shelf
namespace Ci
open Nt
open Classical
structure P1(E:List (Nat×Nat))(n:Nat)(w0:World)(S p q:Nat)(v:Nat->Value)(F:Nat->Int)(wr:World):Prop where
 kp:Kp [S,S+1,S+1+1] w0 wr
 lm:LM wr w0.heap.size S n (cQ E p q) v (lsQ E n p q)
 pl:∃c f,MapK prog 3 κi wr (S+1+1) c f/\c<=1000*p+q/\∀x:Nat,x<n->f (x:Int)=if PL E p q x then some (.bool true) else none
 ro:RoI wr (S+1) n F
 fs:∀x,x<n->PL E p q x->F x=(fst E x:Int)
section
variable {E:List (Nat×Nat)} {n p q S:Nat} {w0 wr w':World} {v:Nat->Value} {F:Nat->Int}
theorem LM.congr{w:World}{B mb c c':Nat}{ls ls':Nat->List Nat}(h:LM w B mb n c v ls)(e:∀x,ls x=ls' x)(ec:c=c'):LM w B mb n c' v ls':=by
 obtain rfl:ls=ls':=funext e;subst ec;exact h
theorem P1.below(h:P1 E n w0 S p q v F wr)(hb:Below wr.heap.size wr w'):P1 E n w0 S p q v F w':=by
 obtain⟨c,f,h1,h2⟩:=h.pl;exact⟨h.kp.below hb,h.lm.below hb,⟨c,f,h1.below hb,h2⟩,h.ro.below hb,h.fs⟩
theorem P1.had(h:P1 E n w0 S p 0 v F wr)(hp:fst E p≠p):P1 E n w0 S (p+1) 0 v F wr:=by
 obtain⟨c,f,h1,h2,h3⟩:=h.pl;refine⟨h.kp,h.lm.congr (fun x=>?_) ?_,⟨c,f,h1,by omega,fun x hx=>?_⟩,h.ro,fun x hx hP=>h.fs x hx ((Nv hp).1 hP)⟩
 .rw[DS,DS,U9 hp]
 .rw[Gg,Gg,Ou,zC hp]
 rw[h3 x hx]
 by_cases e:PL E p 0 x
 .rw[zD e,zD ((Nv hp).2 e)]
 rw[zC e,zC fun c=>e ((Nv hp).1 c)]
theorem P1.next(h:P1 E n w0 S p n v F wr)(hp:fst E p=p)(d:p<n)(hn:n<=1000):P1 E n w0 S (p+1) 0 v F wr:=by
 obtain⟨c,f,h1,h2,h3⟩:=h.pl;refine⟨h.kp,h.lm.congr (fun x=>?_) ?_,⟨c,f,h1,by omega,fun x hx=>?_⟩,h.ro,fun x hx hP=>h.fs x hx ((K0 hp hx).1 hP)⟩
 .rw[DS,SA hp]
 .rw[Gg,UA hp d]
 rw[h3 x hx]
 by_cases e:PL E p n x
 .rw[zD e,zD ((K0 hp hx).2 e)]
 rw[zC e,zC fun c=>e ((K0 hp hx).1 c)]
theorem P1.skip(h:P1 E n w0 S p q v F wr)(hm:¬Mut E p q):P1 E n w0 S p (q+1) v F wr:=by
 obtain⟨c,f,h1,h2,h3⟩:=h.pl;refine⟨h.kp,h.lm.congr (fun x=>(S1 hm).symm) (U7 hm).symm,⟨c,f,h1,by omega,fun x hx=>?_⟩,h.ro,fun x hx hP=>h.fs x hx ((Kz hm).1 hP)⟩;rw[h3 x hx]
 by_cases e:PL E p q x
 .rw[zD e,zD ((Kz hm).2 e)]
 rw[zC e,zC fun c=>e ((Kz hm).1 c)]
theorem P1.look(h:P1 E n w0 S p 0 v F wr)(d:p<n)(hn:n<=1000):(Instr.lookup 98 (.map (some (S+1+1))) (.int .i64 (p:Int)) false).run prog wr=.ok (.bool (bV (fst E p≠p))) wr:=by
 obtain⟨c,f,h1,_,h3⟩:=h.pl;have:=h1.look FA underlying98 (Ol wr) (Ew underlying3 (a:=(p:Int)) (by omega) (by omega));rw[this,h3 p d]
 by_cases e:fst E p≠p
 .rw[zD (S9.2 e),Cp e];rfl
 rw[zC fun c=>e (S9.1 c),BR e];rfl
theorem ReachM.look{mb:Nat}{w:World}(h:ReachM w n mb E p)(hq:q<n)(hn:n<=1000):(Instr.lookup 98 (.map (some mb)) (.int .i64 (q:Int)) false).run prog w=.ok (.bool (bV (Reach E p q))) w:=by
 obtain⟨c,f,h1,h3⟩:=h;have:=h1.look FA underlying98 (Ol w) (Ew underlying3 (a:=(q:Int)) (by omega) (by omega));rw[this,h3 q hq]
 by_cases e:Reach E p q
 .rw[zD e,Cp e];rfl
 rw[zC e,BR e];rfl
theorem ReachM.below{mb:Nat}{w:World}(h:ReachM w n mb E p)(hb:Below w.heap.size w w'):ReachM w' n mb E p:=by
 obtain⟨c,f,h1,h3⟩:=h;exact⟨c,f,h1.below hb,h3⟩
theorem ReachM.kp{mb:Nat}{xs:List Nat}{w:World}(h:ReachM w n mb E p)(hk:Kp xs w w')(hm:mb∉xs):ReachM w' n mb E p:=by
 obtain⟨c,f,h1,h3⟩:=h;exact⟨c,f,h1.kp hk hm,h3⟩
theorem P1.start(E:List (Nat×Nat))(n:Nat)(wS:World)(t:TypeId):
 P1 E n (((wS.alloc (.map #[] 0)).alloc (.cells (madeCells #[.int .i64 0] n) t)).alloc (.map #[] 0)) wS.heap.size 0 0 (fun _=>.slice none 0 0) (fun _=>0) (((wS.alloc (.map #[] 0)).alloc (.cells (madeCells #[.int .i64 0] n) t)).alloc (.map #[] 0)):=by
 have s1:(wS.alloc (.map #[] 0)).heap.size=wS.heap.size+1:=by simp
 have s2:((wS.alloc (.map #[] 0)).alloc (.cells (madeCells #[.int .i64 0] n) t)).heap.size=wS.heap.size+1+1:=by simp
 have hR:=(RoI.made (wS.alloc (.map #[] 0)) n t).alloc (.map #[] 0);rw[s1]at hR;have hM:=MapK.made ((wS.alloc (.map #[] 0)).alloc (.cells (madeCells #[.int .i64 0] n) t)) prog 3 κi;rw[s2]at hM;refine⟨Kp.refl _ _,(((LM.made wS _ n).alloc _).alloc _).congr (fun x=>?_) ?_,⟨0,_,hM,zQ _,fun x _=>?_⟩,hR,fun x _ hP=>?_⟩
 .rw[DS];unfold lsO;rw[zC (by omega)]
 .rw[Gg];rfl
 .rw[zC fun c=>by have:=Ep.1 c;omega]
 have:=Ep.1 hP;omega
theorem P1.step(h:P1 E n w0 S p q v F wr)(ao:w0.heap.size=S+3)(hm:Mut E p q)(ad:p<n)(an:q<n)(hn:n<=1000)(am:fst E p=p):
 ∃ W1,(Instr.mapUpdate 98 (.map (some (S+1+1))) (.int .i64 (q:Int)) (.bool true)).run prog wr=.ok () W1/\W1.heap.size=W1.heap.size/\RoI W1 (S+1) n F /\
  (∀ W2,W2=W1.setCell ⟨S+1,q,none⟩ (.int .i64 (p:Int))->(Instr.lookup 97 (.map (some S)) (.int .i64 (p:Int)) false).run prog W2=.ok (v p) W2/\wr.heap.size<=W2.heap.size /\
    ∀ W3,W3=W2.alloc (.cells #[.int .i64 (q:Int)] 3)->W3.ownsRow w0.heap.size 3 1 (v p) (lsQ E n p q p).length (Bw (lsQ E n p q p)) /\
     ∀ vb wb,wb.ownsRow w0.heap.size 3 1 vb ((lsQ E n p q p).length+1) (Bw (lsQ E n p q p)++[.int .i64 (q:Int)])->W3.grownBy wb (v p).ownBlock->(vb.ownBlock=(v p).ownBlock\/vb.ownBlock=some W3.heap.size) ->
      ∃ W4,(Instr.mapUpdate 97 (.map (some S)) (.int .i64 (p:Int)) vb).run prog wb=.ok () W4/\P1 E n w0 S p (q+1) (fun i=>if i=p then vb else v i) (Ea F q (p:Int)) W4 /\
       (∀w6,Kp [S,S+1,S+1+1] w6 wr->(∀b,(v p).ownBlock=some b->w6.heap.size<=b)->Kp [S,S+1,S+1+1] w6 W4/\∀b,vb.ownBlock=some b->w6.heap.size<=b)):=by
 obtain⟨c,f,h1,h2,h3⟩:=h.pl;obtain⟨W1,ai,aj,ab⟩:=h1.put Gy FA underlying98 (by unfold maxLen;omega) (Ew underlying3 (a:=(q:Int)) (by omega) (by omega)) (.bool true);have d:∀x b,x<n->(v x).ownBlock=some b->w0.heap.size<=b:=fun x b hx e=>((h.lm.rows x hx).lt b e).1
 have hL1:LM W1 w0.heap.size S n (cQ E p q) v (lsQ E n p q):=h.lm.grown ab (by simp;omega) fun x b hx e e2=>by
  have:=d x b hx e
  cases e2;omega
 have ag:RoI W1 (S+1) n F:=h.ro.grown ab (by simp);refine⟨W1,ai,rfl,ag,?_⟩;rintro W2 rfl
 have hL2:=hL1.set (a:=⟨S+1,q,none⟩) (.int .i64 (p:Int)) (by simp) fun x hx e=>by
  have:=d x _ hx e;simp only at this;omega
 have al:=ag.set an (p:Int);have ak:=aj.set (a:=⟨S+1,q,none⟩) (by simp) (.int .i64 (p:Int));refine⟨hL2.look ad hn,by have:=ab.size;simpa using this,?_⟩;rintro W3 rfl;have hL3:=hL2.alloc (.cells #[.int .i64 (q:Int)] 3);refine⟨hL3.rows p ad,fun vb wb ho hg aa=>?_⟩;have hc:=Xj (E:=E) (p:=p) (q:=q);obtain⟨W4,af,hL4,ae⟩:=hL3.step ad hn (by unfold maxLen;omega) hg ho aa;have hS:∀b,(v p).ownBlock=some b->S+1+1<b:=fun b e=>by have:=d p b ad e;omega
 refine⟨W4,af,⟨?_,hL4.congr (fun x=>?_) ?_,⟨if (f (q:Int)).isSome then c else c+1,HH f (q:Int) (some (.bool true)),?_,?_,fun x hx=>?_⟩,?_,fun x hx hP=>?_⟩,fun w6 hk ah=>⟨?_,fun b e=>?_⟩⟩
 .exact((((h.kp.grown ab fun b e=>by cases e;simp).set (a:=⟨S+1,q,none⟩) _ (by simp)).alloc _).grown hg fun b e=>.inr (d p b ad e)).grown ae fun b e=>by cases e;simp
 .rw[S8 hm];rfl
 .rw[U8 (n:=n) hm]
 .exact((ak.alloc _).kept hg fun e=>by have:=hS _ e.symm;omega).kept ae (by simp;omega)
 .split<;>omega
 .by_cases e:x=q
  .subst e;rw[Bg,zD ((Ho hm).2 (.inr rfl))]
  rw[Bj (fun c=>e (by omega)),h3 x hx]
  by_cases e2:PL E p q x
  .rw[zD e2,zD ((Ho hm).2 (.inl e2))]
  rw[zC e2,zC fun c=>((Ho hm).1 c).elim e2 e]
 .exact((al.alloc _).grown hg fun e=>by have:=hS _ e;omega).grown ae (by simp)
 .by_cases e:x=q
  .subst e;rw[Bb,<-Fx hm,am]
  rw[AJ e];exact h.fs x hx (((Ho hm).1 hP).elim id fun c=>absurd c e)
 .exact((((hk.grown ab fun b e=>by cases e;simp).set (a:=⟨S+1,q,none⟩) _ (by simp)).alloc _).grown hg fun b e=>.inr (ah b e)).grown ae fun b e=>by cases e;simp
 rcases aa with aa|aa
 .exact ah b (by rw[<-aa,e])
 rw[e]at aa;have h1:=hk.size;have h2:=ab.size;simp only[Option.some.injEq,zX,World.size_setCell]at aa;omega
end
structure P2(E:List (Nat×Nat))(n:Nat)(w7:World)(S:Nat)(v:Nat->Value)(pre left:List Nat)(vo:Value)(wr:World):Prop where
 st:Stage n E pre left
 kp:Kp [S] w7 wr
 mp:∃f,MapK prog 3 κi wr S left.length f/\∀x:Nat,x<n->f (x:Int)=if x∈left then some (v x) else none
 o:wr.ownsRow w7.heap.size 37 1 vo pre.length (pre.map v)
section
variable {E:List (Nat×Nat)} {n p q S:Nat} {w0 w7 wr w':World} {v:Nat->Value} {F:Nat->Int} {pre left:List Nat} {vo:Value}
theorem P2.start(h:P1 E n w0 S n 0 v F w7)(hE:InN n E):P2 E n w7 S v [] (leasts n E) (.slice none 0 0) w7:=by
 obtain⟨f,h1,h2⟩:=h.lm.map;rw[Gg,Wb]at h1;refine⟨Stage.start hE,Kp.refl _ _,⟨f,h1,fun x hx=>?_⟩,yO _ _ _ _⟩;rw[h2 x hx,DS,Ov hx]
 by_cases e:x∈leasts n E
 .rw[zD e,zD e,zC (Ot hx)]
 rw[zC e,zC e,zD rfl]
theorem P2.pre_nodup(h:P2 E n w7 S v pre left vo wr)(hE:InN n E):pre.Nodup:=by
 have h1:=Ip hE;rw[h.st.eq]at h1;exact(List.nodup_append.1 h1).1
theorem P2.len(h:P2 E n w7 S v pre left vo wr)(ty:TypeId):(Builtin.len_ #[97] ty #[.map (some S)]).run prog wr=.ok (.int .i64 (left.length:Int)) wr:=by
 obtain⟨f,h1,_⟩:=h.mp;exact h1.len underlying97 ty
theorem P2.look(h:P2 E n w7 S v pre left vo wr)(hp:p<n)(hn:n<=1000):(Instr.lookup 97 (.map (some S)) (.int .i64 (p:Int)) true).run prog wr=.ok (.tuple #[if p∈left then v p else .slice none 0 0,.bool (bV (p∈left))]) wr:=by
 obtain⟨f,h1,h2⟩:=h.mp;have:=h1.look_ok FA underlying97 (So wr) (Ew underlying3 (a:=(p:Int)) (by omega) (by omega));rw[this,h2 p hp]
 by_cases e:p∈left
 .rw[zD e,zD e,Cp e];rfl
 rw[zC e,zC e,BR e];rfl
theorem P2.step(h:P2 E n w7 S v pre left vo wr)(hp:Fj E left=some p)(ag:p<n)(hn:n<=1000)(hS:S<w7.heap.size):
 (wr.alloc (.cells #[v p] 37)).ownsRow w7.heap.size 37 1 vo pre.length (pre.map v)/\w7.heap.size<=(wr.alloc (.cells #[v p] 37)).heap.size /\
 ∀ vb wb,wb.ownsRow w7.heap.size 37 1 vb (pre.length+1) (pre.map v++[v p])->(wr.alloc (.cells #[v p] 37)).grownBy wb vo.ownBlock ->
  ∃W4,(Builtin.delete_ #[97,3] 0 #[.map (some S),.int .i64 (p:Int)]).run prog wb=.ok (.tuple #[]) W4/\P2 E n w7 S v (pre++[p]) (left.erase p) vb W4:=by
 have hs:=h.kp.size;obtain⟨ab,_,_⟩:=Cw h.st.ok hp;obtain⟨f,h1,h2⟩:=h.mp;have ae:∀b,vo.ownBlock=some b->w7.heap.size<=b:=fun b e=>(h.o.lt b e).1;refine⟨AC h.o ((zI _ wr).alloc (zB _) _),by simp;omega,fun vb wb ho hg=>?_⟩;have af:∀b,vo.ownBlock=some b->b≠S:=fun b e c=>by have:=ae b e;omega
 have hM:=(h1.alloc (.cells #[v p] 37)).kept hg fun e=>af S e.symm rfl;obtain⟨W4,ad,d,aa⟩:=hM.del Gy FA underlying97 (Ew underlying3 (a:=(p:Int)) (by omega) (by omega)) 0
 have hc:(if (f (p:Int)).isSome then left.length-1 else left.length)=(left.erase p).length:=by
  rw[h2 p ag,zD ab,yh ab];rfl
 rw[hc]at d;refine⟨W4,ad,h.st.step hp,?_,⟨_,d,fun x hx=>?_⟩,?_⟩
 .exact((h.kp.alloc _).grown hg fun b e=>.inr (ae b e)).grown aa fun b e=>by cases e;simp
 .by_cases e:x=p
  .subst e;rw[Bg,zC fun c=>(h.st.ok.nodup.mem_erase_iff.1 c).1 rfl]
  rw[Bj (fun c=>e (by omega)),h2 x hx]
  by_cases e2:x∈left
  .rw[zD e2,zD ((List.mem_erase_of_ne e).2 e2)]
  rw[zC e2,zC fun c=>e2 ((List.mem_erase_of_ne e).1 c)]
 rw[zV,zw];refine ho.kept aa ?_
 cases hu:vb.ownBlock with
 |none=>exact .inl rfl
 |some b=>exact .inr fun e=>(by have:=(ho.lt b hu).1;cases e;omega)
def slA:Value->Option Addr
 |.slice a _ _=>a
 |_=>none
def slC:Value->Nat
 |.slice _ _ c=>c
 |_=>0
noncomputable def BP(E:List (Nat×Nat))(n:Nat)(v:Nat->Value)(pre:List Nat):List (Option Addr×Nat×List Int):=pre.map fun p=>(slA (v p),slC (v p),(CL n E p).map fun(q:Nat)=>(q:Int))
theorem PK:baR (BP E n v pre)=pre.map fun p=>(CL n E p).map fun(q:Nat)=>(q:Int):=by
 unfold baR BP;rw[xm];rfl
theorem JC{W:World}{base:Nat}{e:TypeId}{u:Value}{l:List Nat}(h:W.ownsRow base e 1 u l.length (Bw l)):u=.slice (slA u) l.length (slC u)/\InInt W (slA u) (l.map fun(q:Nat)=>(q:Int)):=by
 rcases Dp h with⟨rfl,rfl⟩|⟨g,cap,rfl,_,h1,_,h2⟩
 .exact⟨rfl,fun h=>absurd h (by simp)⟩
 refine⟨rfl,fun _=>⟨g,0,rfl,h1,fun j hj=>?_⟩⟩;have d:j<l.length:=by simpa using hj
 rw[yE,h2 j d];simp
theorem SD{W:World}{base base2 c:Nat}{A:Option Addr}(hn:n<=1000)(h:W.ownsRow base 37 1 (.slice A pre.length c) pre.length (pre.map v))(hr:∀p,p∈pre->W.ownsRow base2 3 1 (v p) (CL n E p).length (Bw (CL n E p))):SB W A (BP E n v pre):=fun h0=>by
 have hl:(BP E n v pre).length=pre.length:=by simp[BP]
 rw[hl]at h0
 rcases h.2 with⟨_,h1⟩|⟨g,cap,cur,e,hb,hg,_⟩
 .omega
 injection e with e1 _ _;subst e1;refine⟨g,0,rfl,(Array.getElem?_eq_some_iff.1 hg).1,fun j hj=>?_⟩;have d:j<pre.length:=by omega
 have hc:=h.cells (g:=g) (by simp[Value.ownBlock]) j (v pre[j]) (by simp[d]);rw[Addr.add_lit]at hc;have aa:=JC (hr pre[j] (zN d));have he:(BP E n v pre)[j]=(slA (v pre[j]),slC (v pre[j]),(CL n E pre[j]).map fun(q:Nat)=>(q:Int)):=by simp[BP]
 rw[he];refine⟨?_,aa.2,?_⟩
 .rw[hc];simp only[zW];rw[<-aa.1]
 simp only[zW];unfold CL;have h:=zr (fun q=>decide (Mut E pre[j] q)) (List.range n);rw[yZ]at h;omega
end
end Ci
end
section
open Go.RowKit Go.Shelf
namespace Ci
def QIn(w:World)(B:Nat)(v:Value)(l:List Nat):Prop :=
 (∃A,v=.slice A 0 0/\l=[]/\∀b,v.ownBlock=some b->B<=b/\b<w.heap.size) \/
 ∃g o cap,v=.slice (some ⟨g,o,none⟩) l.length cap/\B<=g/\g<w.heap.size/\l.length<=cap/\(∀j,j<cap->(w.cell? ⟨g,o+j,none⟩).isSome=true)/\(∀j,w.frozen? ⟨g,j,none⟩=false)/\∀j (h:j<l.length),w.cell? ⟨g,o+j,none⟩=some (.int .i64 (l[j]:Int))
section
variable {w w':World} {B:Nat} {v:Value} {l:List Nat} {q:Nat}
theorem QIn.block(h:QIn w B v l){b:Nat}(hb:v.ownBlock=some b):B<=b/\b<w.heap.size:=by
 rcases h with⟨A,rfl,_,h⟩|⟨g,o,cap,rfl,h1,h2,_⟩
 .exact h b hb
 cases hb;exact⟨h1,h2⟩
theorem QIn.grown{row:Option Nat}(h:QIn w B v l)(hg:w.grownBy w' row)(d:v.ownBlock=none\/v.ownBlock≠row):QIn w' B v l:=by
 rcases h with⟨A,rfl,h1,h2⟩|⟨g,o,cap,rfl,h1,h2,h3,h4,h5,h6⟩
 .exact .inl ⟨A,rfl,h1,fun b hb=>⟨(h2 b hb).1,zJ (h2 b hb).2 hg.size⟩⟩
 have hb:w'.heap[g]? = w.heap[g]?:=hg.block g h2 fun e=>by
  rcases d with d|d
  .cases d
  exact d e
 refine .inr ⟨g,o,cap,rfl,h1,zJ h2 hg.size,h3,fun j hj=>?_,fun j=>?_,fun j hj=>?_⟩
 .rw[zT (a:=⟨g,o+j,none⟩) hb];exact h4 j hj
 .rw[yF (a:=⟨g,j,none⟩) hb];exact h5 j
 rw[zT (a:=⟨g,o+j,none⟩) hb];exact h6 j hj
theorem QIn.set(h:QIn w B v l){a:Addr}(ha:v.ownBlock≠some a.block)(u:Value):QIn (w.setCell a u) B v l :=
 h.grown (row:=some a.block) ⟨rfl,rfl,rfl,by simp,fun k _ hk=>ze _ _ _ _ (fun e=>hk (by rw[e]))⟩ (.inr ha)
theorem QIn.alloc(h:QIn w B v l)(o:Obj):QIn (w.alloc o) B v l :=
 h.grown (row:=none) ⟨rfl,rfl,rfl,by simp,fun k hk _=>heap_alloc_old w o hk⟩ (by cases hq:v.ownBlock<;>simp)
theorem QIn.drew(h:QIn w B v l):QIn w.drew B v l:=h
theorem QIn.head{p:Nat}(h:QIn w B v (p::l)):∃g o cap,v=.slice (some ⟨g,o,none⟩) (l.length+1) cap/\B<=g/\g<w.heap.size/\l.length+1<=cap/\w.cell? ⟨g,o,none⟩=some (.int .i64 (p:Int)) /\
 QIn w B (.slice (some (if cap=1 then ⟨g,o,none⟩ else ⟨g,o+1,none⟩)) l.length (cap-1)) l:=by
 rcases h with⟨A,_,h1,_⟩|⟨g,o,cap,rfl,h1,h2,h3,h4,h5,h6⟩
 .cases h1
 refine⟨g,o,cap,rfl,h1,h2,h3,by have:=h6 0 (by simp);simpa using this,?_⟩;simp only[zZ]at h3
 by_cases e:cap=1
 .rw[zD e];have hl:l=[]:=List.length_eq_zero_iff.1 (by omega);subst hl;subst e;exact .inl ⟨_,rfl,rfl,fun b hb=>by cases hb;exact⟨h1,h2⟩⟩
 rw[zC e];refine .inr ⟨g,o+1,cap-1,rfl,h1,h2,by omega,fun j hj=>?_,h5,fun j hj=>?_⟩
 .have:=h4 (j+1) (by omega)
  rwa [show o+1+j=o+(j+1) by omega]
 have:=h6 (j+1) (by simp;omega);rw[show o+1+j=o+(j+1) by omega]
 simpa using this
theorem QIn.of_row{e:TypeId}{u:Value}(h:w.ownsRow B e 1 u l.length (l.map fun(q:Nat)=>.int .i64 (q:Int))):QIn w B u l:=by
 rcases h.2 with⟨rfl,h0⟩|⟨g,cap,cur,rfl,hb,hg,h1,_,h3,_⟩
 .exact .inl ⟨none,rfl,List.length_eq_zero_iff.1 h0,fun b hb=>by cases hb⟩
 have d:∀o,(⟨g,0,none⟩:Addr).add o=⟨g,0+o,none⟩:=fun o=>by unfold Addr.add;split<;>simp_all
 refine .inr ⟨g,0,cap,rfl,hb,(Array.getElem?_eq_some_iff.1 hg).1,h1,fun j hj=>?_,fun j=>by simp[World.frozen?,hg],fun j hj=>?_⟩
 .simp only[World.cell?,hg];have:0+j<cur.size:=by omega
  simp at this;simp[this]
 have hc:=h.cells (g:=g) (by simp[Value.ownBlock]) j (.int .i64 (l[j]:Int)) (by simp[hj])
 rwa [d]at hc
theorem QIn.mono{B':Nat}(h:QIn w B v l)(hb:B'<=B):QIn w B' v l:=by
 rcases h with⟨A,rfl,h1,h2⟩|⟨g,o,cap,rfl,h1,h2⟩
 .exact .inl ⟨A,rfl,h1,fun b e=>⟨zS hb (h2 b e).1,(h2 b e).2⟩⟩
 exact .inr ⟨g,o,cap,rfl,zS hb h1,h2⟩
theorem GB{P:Program}(t ty e:TypeId)(i:TypeInfo)(z:Value)(bytes:Nat)(ht:P.underlying t=some (.slice e))(hi:P.info? e=some i)(hz:i.zero=some z)
 (d:i.size=1)(ab:i.bytes=bytes)(aj:z.cells.size=1)(h:QIn w B v l)(hB:B<=w.heap.size)(ad:Addr)(c:Nat)(had:w.cell? ad=some (.int .i64 (q:Int)))
 (hb:(l.length+1)*bytes<=140737488355328)(hm:l.length+1<=maxLen):
 ∃v' w',(Builtin.append_ #[t,t] ty #[v,.slice (some ad) 1 c]).run P w=.ok v' w'/\QIn w' B v' (l++[q])/\w.grownBy w' v.ownBlock/\(v'.ownBlock=v.ownBlock\/v'.ownBlock=some w.heap.size):=by
 have aa:∀j u,[(Value.int .i64 (q:Int))][j]? = some u->w.cell? (ad.add j)=some u:=fun j u hj=>by
  match j,hj with
  |0,hj=>simp at hj;subst hj;rw[Addr.add_zero'];exact had
  |j+1,hj=>simp at hj
 have h1:∀u∈[(Value.int .i64 (q:Int))],u.oneCell'=true:=AM _ rfl;have ak:(l++[q]).map (fun(x:Nat)=>Value.int .i64 (x:Int))=l.map (fun(x:Nat)=>Value.int .i64 (x:Int))++[.int .i64 (q:Int)]:=by simp
 have fin:∀{v':Value} {w':World},w'.ownsRow w.heap.size e 1 v' (l.length+1) (l.map (fun(x:Nat)=>Value.int .i64 (x:Int))++[.int .i64 (q:Int)])->w.grownBy w' none->(v'.ownBlock=none\/v'.ownBlock=some w.heap.size)->QIn w' B v' (l++[q])/\w.grownBy w' v.ownBlock/\(v'.ownBlock=v.ownBlock\/v'.ownBlock=some w.heap.size):=fun {v' w'} ho hg hn=>by
  refine⟨(QIn.of_row (e:=e) (by rw[ak,zV];exact ho)).mono hB,⟨hg.os,hg.tape,hg.output,hg.size,fun k hk _=>hg.block k hk (by simp)⟩,?_⟩
  rcases hn with hn|hn
  .rcases ho.2 with⟨_,h0⟩|⟨g,cap,cur,rfl,_⟩
   .omega
   cases hn
  exact .inr hn
 rcases h with⟨A,rfl,rfl,hA⟩|⟨g,o,cap,rfl,al,am,h3,h4,h5,h6⟩
 .cases A with
  |none=>
   obtain⟨v',w',hr,h2,h3,_⟩:=wg (P:=P) w B t ty e i z 1 bytes ht hi hz d ab aj (by decide) (.slice none 0 0) 0 [] (yO _ _ _ _) ad 1 c [.int .i64 (q:Int)] (by simp) aa h1 (by simpa using hm) (by simpa using hb) hB;have h5:=BK (P:=P) t ty e i z 1 bytes ht hi hz d ab (.slice none 0 0) 0 [] (yO w B _ _) ad 1 c [.int .i64 (q:Int)] (by simp) aa h1 (by decide) (by simpa using hm) (by simpa using hb) hr;refine⟨v',w',hr,QIn.of_row (e:=e) (by simpa using h2),h3,h5⟩
  |some b=>
   obtain⟨b1,b2⟩:=hA b.block rfl;obtain⟨v',w',hr,r1,r2⟩:=run_append_arg_grows (P:=P) w t ty e i z 1 bytes ht hi hz d ab aj (by decide) b 0 0 [] rfl (fun j u hj=>by simp at hj) ad 1 c [.int .i64 (q:Int)] (by simp) aa (by decide) (by simpa using hm) (by simpa using hb);refine⟨v',w',hr,fin (by simpa using r1) r2 ?_⟩
   rcases r1.2 with⟨_,h0⟩|⟨g,cap,cur,rfl,ao,an,_⟩
   .cases h0
   have ai:=run_append_grow (P:=P) w t ty e i z ht hi hz b 0 0 [] (by simp) (fun j u hj=>by simp at hj) ad 1 c [.int .i64 (q:Int)] (by rw[d];simp) aa (by decide) (by decide) (growslice_fits (by decide) (by rw[ab];simpa using hb));rw[ai]at hr;simp only[Result.ok.injEq]at hr;rw[<-hr.1];exact .inr rfl
 by_cases hroom:l.length+1<=cap
 .have hr:=run_append_room_cells (P:=P) w t ty e i ht hi g o l.length cap ad 1 c [.int .i64 (q:Int)] (by rw[d];simp) aa h1 hroom
   (fun j hj=>by simp only[xU]at hj;rw[d];have:=h4 (l.length+j) (by omega);rwa [show o+l.length*1+j=o+(l.length+j) by omega]) (fun j _=>h5 _)
  rw[d]at hr
  have ag:∀j,j<cap->j≠l.length->(w.setCell ⟨g,o+l.length*1,none⟩ (.int .i64 (q:Int))).cell? ⟨g,o+j,none⟩=w.cell? ⟨g,o+j,none⟩:=fun j _ ap=>
   yD _ _ _ _ (fun e=>by injection e with _ e2;omega)
  have ae:(w.setCell ⟨g,o+l.length*1,none⟩ (.int .i64 (q:Int))).cell? ⟨g,o+l.length,none⟩=some (.int .i64 (q:Int)):=by
   have h7:=h4 l.length (by omega);obtain⟨u,hu⟩:=Option.isSome_iff_exists.1 h7;rw[Nat.mul_one];exact yV _ _ _ hu
  refine⟨_,_,hr,.inr ⟨g,o,cap,by simp,al,by simpa [World.setCells] using am,by simpa using hroom,fun j hj=>?_,fun j=>?_,fun j hj=>?_⟩,?_,.inl rfl⟩
  .by_cases e:j=l.length
   .subst e
    show ((w.setCell _ _).cell? _).isSome=true
    rw[ae];rfl
   show ((w.setCell _ _).cell? _).isSome=true
   rw[ag j hj e];exact h4 j hj
  .show (w.setCell _ _).frozen? _=false
   rw[World.frozen?_setCell];exact h5 j
  .by_cases e:j=l.length
   .subst e
    show (w.setCell _ _).cell? _=_
    rw[ae];simp
   have ah:j<l.length:=by simp at hj;omega
   show (w.setCell _ _).cell? _=_
   rw[ag j (by omega) e,h6 j ah];simp[ah]
  exact⟨rfl,rfl,rfl,by simp[World.setCells],fun k _ hk=>ze _ _ _ _ (fun e=>hk (by rw[e];rfl))⟩
 have af:∀j u,(l.map fun(x:Nat)=>Value.int .i64 (x:Int))[j]? = some u->w.cell? ((⟨g,o,none⟩:Addr).add j)=some u:=fun j u hj=>by
  obtain⟨ah,e⟩:=List.getElem?_eq_some_iff.1 hj;rw[Addr.add_lit,h6 j (by simpa using ah),<-e];simp
 obtain⟨v',w',hr,r1,r2⟩:=run_append_arg_grows (P:=P) w t ty e i z 1 bytes ht hi hz d ab aj (by decide) ⟨g,o,none⟩ l.length cap (l.map fun(x:Nat)=>Value.int .i64 (x:Int)) (by simp) af ad 1 c [.int .i64 (q:Int)] (by simp) aa (by omega) hm hb;refine⟨v',w',hr,fin r1 r2 ?_⟩;have ai:=run_append_grow (P:=P) w t ty e i z ht hi hz ⟨g,o,none⟩ l.length cap (l.map fun(x:Nat)=>Value.int .i64 (x:Int)) (by rw[d];simp) af ad 1 c [.int .i64 (q:Int)] (by rw[d];simp) aa (by omega) (by simp only[maxLen]at hm;omega) (growslice_fits (by omega) (by rw[ab];exact hb));rw[ai]at hr;simp only[Result.ok.injEq]at hr;rw[<-hr.1];exact .inr rfl
end
theorem QIn.form{w:World}{B:Nat}{v:Value}{l:List Nat}(h:QIn w B v l):∃A c,v=.slice A l.length c:=by
 rcases h with⟨A,rfl,rfl,_⟩|⟨g,o,cap,rfl,_⟩
 .exact⟨A,0,rfl⟩
 exact⟨_,_,rfl⟩
theorem Fnq{P:Program}(w:World){ops:Array Oper}{rest:List Oper}{o:Oper}{a:Act}{Q:Exit->Act->World->Prop}(ae:o.guard=none)(s x:Operand)(t:TypeId)
 (ho:o.op=.call { callee:=.builtin .append,args:=#[s,x],argTypes:=#[t,t] })
 (B:Nat)(e:TypeId)(i:TypeInfo)(z:Value)(bytes:Nat)(ht:P.underlying t=some (.slice e))(hi:P.info? e=some i)(hz:i.zero=some z)
 (d:i.size=1)(ab:i.bytes=bytes)(af:z.cells.size=1)
 (v:Value)(l:List Nat)(q:Nat)(hs:a.eval s=v)(h:QIn w B v l)(hB:B<=w.heap.size)(ad:Addr)(c:Nat)(hx:a.eval x=.slice (some ad) 1 c)(had:w.cell? ad=some (.int .i64 (q:Int)))
 (hb:(l.length+1)*bytes<=140737488355328)(hm:l.length+1<=maxLen)
 (hK:∀v' w',QIn w' B v' (l++[q])->w.grownBy w' v.ownBlock->(v'.ownBlock=v.ownBlock\/v'.ownBlock=some w.heap.size)->wpList P ops Q rest (a.put o.dst v') w'):wpList P ops Q (o::rest) a w :=
 wpList_plain ae fun _ aa=>by
  obtain⟨v',w',hr,h2,h3,h4⟩:=GB (P:=P) t o.type e i z bytes ht hi hz d ab af h hB ad c had hb hm;unfold Oper.wp execOp;simp only[ho,resolve,invoke,builtin,vR,wv,wK,wO,yy,vO,hs,hx,hr];exact aa _ _ (hK v' w' h2 h3 h4)
end Ci
end
section
open Go.RowKit Go.Shelf
namespace Ci
open Nt
def BS(n m:Nat):List Value:=List.replicate m (.int .i64 (-1))++List.replicate (n-m) (.int .i64 0)
theorem Nw(n:Nat):BS n 0=List.replicate n (.int .i64 0):=by simp[BS]
theorem PM(n:Nat):BS n n=List.replicate n (.int .i64 (-1)):=by simp[BS]
theorem JD{n m:Nat}(h:m<=n):(BS n m).length=n:=by simp[BS];omega
theorem SE{n m j:Nat}(h:j<m):(BS n m)[j]? = some (.int .i64 (-1)):=by
 unfold BS;rw[xO (by simpa using h),vK,zD h]
theorem Gh{n m c:Nat}(h:m+c<=n):splice (BS n m) m (List.replicate c (.int .i64 (-1)))=BS n (m+c):=by
 unfold splice BS;rw[List.take_left' (by simp),xI,List.drop_append,List.drop_eq_nil_of_le (by simp),yT,xI,List.drop_replicate,<-xT,List.replicate_append_replicate,show n-m-(m+c-m)=n-(m+c) by omega]
theorem Nx(n:Nat):madeCells #[(.int .i64 0:Value)] n=(BS n 0).toArray:=by
 rw[Nw];unfold madeCells;apply Array.ext
 .simp
 intro i h1 h2;simp;rw[vW];rfl
theorem FG:(prog.info? 3).map (fun i=>(i.zero,i.size,i.bytes))=some (some (.int .i64 0),1,8):=by kernel_rfl
theorem SF:(prog.info? 3).map (·.size)=some 1:=by kernel_rfl
theorem Er(n b:Nat)(w:World)(hn:n<=1000)(hb:w.cell? ⟨b,0,none⟩=some (.int .i64 (-1)))(ap:b<w.heap.size):
 Calls prog 73 #[.slice (some ⟨b,0,none⟩) 1 1,.int .i64 (n:Int)] w fun e w'=>(e=.returned (.slice (some ⟨w.heap.size,0,none⟩) n n)/\w'.heap[w.heap.size]? = some (.cells (List.replicate n (.int .i64 (-1))).toArray 3 (0,0)))/\Below w.heap.size w w':=by
 have kb:Hid (∀W,Calls prog 118 #[.int .u64 1,.int .u64 (n:Int)] W fun e w'=>e=.returned (.tuple #[.int .u64 0,.int .u64 (n:Int)])/\w'=W):=fun W=>by
  have h:=Tryz.bits_Mul 1 n (by decide) (by omega) W;have h1:(1*n/18446744073709551616:Nat)=0:=by omega
  have h2:(1*n%18446744073709551616:Nat)=n:=by omega
  rw[h1,h2]at h;exact h
 have ar:=wT (P:=prog) 37 3 (.int .i64 0) 8 underlying37 FG rfl .i64 .i64 n (by omega) (by omega)
 have am:Hid ((w.alloc (.cells (madeCells #[(.int .i64 0:Value)] n) 3)).heap[w.heap.size]? = some (.cells (BS n 0).toArray 3 (0,0))):=by
  have h:=yR w (.cells (madeCells #[(.int .i64 0:Value)] n) 3);unfold Hid;rw[h,Nx]
 have ai:Hid (Below w.heap.size w (w.alloc (.cells (madeCells #[(.int .i64 0:Value)] n) 3))):=(zI _ w).alloc (zB _) _;have al:Hid ((w.alloc (.cells (madeCells #[(.int .i64 0:Value)] n) 3)).cell? ⟨b,0,none⟩=some (.int .i64 (-1))):=(ai.o.cell (p:=⟨b,0,none⟩) ap).trans hb;have d:Hid ((List.replicate (min 1 n) (Value.int .i64 (-1))).length=min 1 n):=xI;have ag:Hid (∀c,∀v∈List.replicate c (Value.int .i64 (-1)),v.oneCell'=true):=fun c v hv=>by rw[(List.mem_replicate.1 hv).2];rfl
 have ab:Hid (0+(List.replicate (min 1 n) (Value.int .i64 (-1))).length<=(BS n 0).length):=by
  unfold Hid;rw[JD (zQ _),xI];omega
 have aa:Hid (∀j v,(List.replicate (min 1 n) (Value.int .i64 (-1)))[j]? = some v->(w.alloc (.cells (madeCells #[(.int .i64 0:Value)] n) 3)).cell? (Addr.add ⟨b,0,none⟩ j)=some v):=fun j v hj=>by
  rw[vK]at hj
  split at hj
  .have h0:j=0:=by omega
   subst h0;rw[Addr.add_zero',<-Option.some.inj hj];exact al.o
  cases hj
 have ad:Hid (goInt (List.replicate (min 1 n) (Value.int .i64 (-1))).length=.int .i64 ((min 1 n:Nat):Int)):=by
  unfold Hid goInt;rw[xI]
 have ah:Hid (splice (BS n 0) 0 (List.replicate (min 1 n) (Value.int .i64 (-1)))=BS n (min 1 n)):=by
  have:=Gh (n:=n) (m:=0) (c:=min 1 n) (by omega)
  rwa [yE]at this
 clear hb;go_enter func73,ntmps73
 go_wp2_with fail
 refine(kb.o _).mono ?_;rintro e w2 ⟨rfl,rfl⟩
 go_wp2_with (refine wpList_copy_splice rfl _ _ _ _ rfl 3 underlying37 SF _ _ _ _ _ _ rfl rfl w2.heap.size 0 (BS n 0) 3 am.o (List.replicate (min 1 n) (.int .i64 (-1))) d.o (fun _=>⟨rfl,_,rfl,aa.o⟩) ab.o (ag.o _) w2.heap.size w2 ai.o (zB _) ?_;intro w3 ak ae;rw[ah.o]at ak;rw[ad.o];replace ae:=zh ae)
 clear ar am ai al d ab aa ad ah
 go_loopw [8] (fun m wr=>∃k:Nat,m=.int .i64 (k:Int)/\k<=n/\(0<n->0<k)/\Hid (wr.heap[w2.heap.size]? = some (.cells (BS n k).toArray 3 (0,0)))/\Hid (Below w2.heap.size w2 wr)) (fun m _=>n-(intOf m).toNat)
 case atStart=>exact⟨min 1 n,rfl,by omega,by omega,ak,ae⟩
 case round=>
  obtain⟨k,rfl,hk,aq,hg,hB⟩:=hrel;clear ak ae
  by_cases hlt:k<n
  .have aw:n≠k:=by omega
   have av:0<k:=aq (by omega);have d:Hid ((List.replicate (min k (n-k)) (Value.int .i64 (-1))).length=min k (n-k)):=xI
   have af:Hid (k+(List.replicate (min k (n-k)) (Value.int .i64 (-1))).length<=(BS n k).length):=by
    unfold Hid;rw[JD (by omega),xI];omega
   have aa:Hid (∀j v,(List.replicate (min k (n-k)) (Value.int .i64 (-1)))[j]? = some v->wr.cell? (Addr.add ⟨w2.heap.size,0,none⟩ j)=some v):=fun j v hj=>by
    rw[vK]at hj
    split at hj
    .rename_i hj2;rw[Addr.add_lit,<-Option.some.inj hj,yE];have h1:(BS n k)[j]? = some (.int .i64 (-1)):=SE (by omega);have h2:=hg.o;simp[World.cell?,h2,h1]
    cases hj
   have ad:Hid (goInt (List.replicate (min k (n-k)) (Value.int .i64 (-1))).length=.int .i64 ((min k (n-k):Nat):Int)):=by
    unfold Hid goInt;rw[xI]
   have ao:Hid (splice (BS n k) k (List.replicate (min k (n-k)) (Value.int .i64 (-1)))=BS n (k+min k (n-k))):=Gh (by omega);go_wp2
   go_region_law (refine step_copy_splice rfl (.tmp 41) (.tmp 44) 37 37 rfl 3 underlying37 SF (some ⟨w2.heap.size,k,none⟩) (some ⟨w2.heap.size,0,none⟩) (n-k) (n-k) k n (by simp[Act.eval,Act.put]) (by simp[Act.eval,Act.put]) w2.heap.size k (BS n k) 3 hg.o (List.replicate (min k (n-k)) (.int .i64 (-1))) d.o (fun _=>⟨rfl,_,rfl,aa.o⟩) af.o (ag.o _) w2.heap.size w2 hB.o.drew (zB _) ?_;intro w4 an aj;rw[ao.o]at an;rw[ad.o];replace aj:=zh aj)
   clear d af aa ad ao hg hB
   have au:IntKind.i64.wrap ((k:Int)+((min k (n-k):Nat):Int))=((k+min k (n-k):Nat):Int):=by
    rw[IntKind.wrap_i64];omega
   simp only[au];dsimp only[Act.put,List.getElem_toArray,List.getElem_cons_succ,List.getElem_cons_zero];simp only[zA,zE,zF];go_wp2
   go_roundw
   case rel=>exact⟨k+min k (n-k),by go_num,by omega,by omega,an,aj⟩
   case measure=>simp only[intOf];omega
  obtain rfl:k=n:=by omega
  have hG:Hid (wr.heap[w2.heap.size]? = some (.cells (List.replicate k (.int .i64 (-1))).toArray 3 (0,0))):=by
   have h:=hg.o
   rwa [PM]at h
  go_wp2;go_ret;exact⟨⟨rfl,hG.o⟩,hB.o⟩
def Du(n:Int)(l:List Int)(k:Nat)(h:k<l.length):Prop:=(0<=l[k]/\l[k]<n)/\(0<k->l[k-1]'(by omega)<l[k])
instance (n:Int) (l:List Int) (k:Nat) (h:k<l.length):Decidable (Du n l k h):=inferInstanceAs (Decidable (_/\_))
def AZ(n:Int)(l:List Int):Bool:=decide (∀k (h:k<l.length),Du n l k h)
theorem LH{n:Int}{l:List Int}{k:Nat}(h:k<l.length)(hb:¬Du n l k h):AZ n l=false:=zH fun hc=>hb (hc k h)
theorem LI{n:Int}{l:List Int}(h:∀k (h:k<l.length),Du n l k h):AZ n l=true:=zG h
def toN(F:List Int):List Nat:=F.map Int.toNat
def Ny(s:SR)(F:List Int)(w:World)(e:Ending)(w':World):Prop :=
 (if Ao s=true/\AZ s.ps.length F=true then ∃b,e=.returned (.tuple #[.slice (some ⟨b,0,none⟩) s.ps.length s.ps.length,.int .i64 0])/\w.heap.size<=b/\RoI w' b s.ps.length (rk (Ag s) (toN F))
   else e=.returned (.tuple #[.slice none 0 0,.int .i64 1]))/\Below w.heap.size w w'
theorem Et{n:Int}{l:List Int}(h:AZ n l=true){k:Nat}(hk:k<l.length):Du n l k hk:=zL h k hk
theorem Nz{n:Int}{F:List Int}(h:AZ n F=true){k:Nat}(hk:k<F.length):∃p:Nat,F[k]=(p:Int)/\(p:Int)<n/\(toN F)[k]? = some p:=by
 have h1:=(Et h hk).1;refine⟨F[k].toNat,by omega,by omega,by simp[toN,hk]⟩
theorem N0{n:Nat}{F:List Int}(h:AZ n F=true){p:Nat}(hp:p∈toN F):p<n:=by
 obtain⟨x,hx,rfl⟩:=List.mem_map.1 hp;obtain⟨k,hk,rfl⟩:=zg hx;have:=(Et h hk).1;omega
theorem N1{n:Nat}{F:List Int}(h:AZ n F=true):(toN F).Pairwise (·<·):=by
 have hs:∀(i j:Nat)(hi:i<F.length)(hj:j<F.length),i<j->F[i]<F[j]:=by
  intro i j hi hj d
  induction j with
  |zero=>omega
  |succ j ih=>
   have h1:=(Et h hj).2 (by omega);simp only[wQ]at h1
   by_cases e:i=j
   .subst e;exact h1
   have:=ih (by omega) (by omega);omega
 unfold toN;rw[List.pairwise_map];refine List.pairwise_iff_getElem.2 fun i j hi hj d=>?_;have:=hs i j hi hj d;have:=(Et h hi).1;have:=(Et h hj).1;omega
theorem JE{n:Nat}{F:List Int}(h:AZ n F=true):(toN F).Nodup:=(N1 h).imp fun h=>yu h
theorem SG{W:World}{base:Nat}{e:TypeId}{u:Value}{l:List Nat}(h:W.ownsRow base e 1 u l.length (Bw l)):
 ∃A cap,u=.slice A l.length cap/\∀j (hj:j<l.length),∃g,A=some ⟨g,0,none⟩/\g<W.heap.size/\W.cell? ⟨g,j,none⟩=some (.int .i64 (l[j]:Int)):=by
 rcases Dp h with⟨rfl,rfl⟩|⟨g,cap,rfl,_,h1,_,h2⟩
 .exact⟨none,0,rfl,fun j hj=>absurd hj (yB _)⟩
 exact⟨_,cap,rfl,fun j hj=>⟨g,rfl,h1,h2 j hj⟩⟩
theorem PN(A:Option Addr)(c:Nat)(F:List Int)(w:World)(hF:InInt w A F)(h0:∀x,x∈F->0<=x)(hl:F.length<=1000):
 Calls prog 74 #[.slice A F.length c] w fun e w'=>(∃v,e=.returned v/\QIn w' w.heap.size v (toN F))/\Below w.heap.size w w':=by
 by_cases h:0<F.length
 .obtain ⟨b,o,rfl,hb,hc⟩:=hF h
  have hz:∀j,j<F.length->w.cell? ⟨b,o+j,none⟩=some (.int .i64 (F.getD j 0)):=fun j hj=>by
   rw[hc j hj];simp[hj]
  refine(Tryz.slices_Clone_int b o F.length c F w (zB _) (by omega) hz).mono ?_;rintro e w' ⟨v,rfl,ho,_,d⟩;refine⟨⟨v,rfl,QIn.of_row (e:=3) ?_⟩,d⟩;have e1:(toN F).length=F.length:=by simp[toN]
  have e2:((toN F).map fun(q:Nat)=>Value.int .i64 (q:Int))=F.map (Value.int .i64):=by
   unfold toN;rw[xm];refine xh fun x hx=>?_;have:=h0 x hx;simp only[Function.comp_apply]
   congr 1
   omega
  rw[e1,e2]
  simpa using ho
 have h1:F=[]:=List.length_eq_zero_iff.1 (by omega);subst h1
 cases A with
 |none=>
  refine(Tryz.slices_Clone_int_nil 0 c w).mono ?_;rintro e w' ⟨rfl,rfl⟩;exact⟨⟨_,rfl,.inl ⟨none,rfl,rfl,fun b hb=>by cases hb⟩⟩,zI _ _⟩
 |some a=>
  refine(Tryz.slices_Clone_int_zero a c w).mono ?_;rintro e w' ⟨v,rfl,ho,_,hb⟩;exact⟨⟨v,rfl,QIn.of_row (e:=3) (by simpa [toN] using ho)⟩,hb⟩
theorem Oe(w:World)(v:Value)(t:TypeId):(w.alloc (.cells #[v] t)).cell? ⟨w.heap.size,0,none⟩=some v:=by
 have:=BH w v t 0 v rfl
 rwa [Addr.add_zero']at this
theorem UB{n p:Nat}{o:Nat->Int}(hp:p<n)(h:0<=o p):Fz n o+1<=n:=by
 have h1:=EV (f:=fun x=>decide (o x<0)) (g:=fun _=>true) (l:=List.range n) (fun _ _ _=>rfl) ⟨p,List.mem_range.2 hp,zH (by omega),rfl⟩
 have h2:(List.filter (fun _=>true) (List.range n)).length=n:=by
  rw[List.filter_eq_self.2 fun _ _=>rfl,yZ]
 rw[h2]at h1;exact h1
theorem UC(n:Nat)(o:Nat->Int):Fz n o<=n:=by
 have:=zr (fun x=>decide (o x<0)) (List.range n);rw[yZ]at this;exact this
def Bd(n:Nat)(o:Nat->Int):Prop:=∀x,x<n->o x+(Fz n o:Int)<n
theorem Bd.start{n:Nat}{F:List Nat}{o:Nat->Int}(h:∀x,o x=if x∈F then 0 else -1):Bd n o:=fun x hx=>by
 by_cases e:x∈F
 .have h1:o x=0:=by rw[h x,zD e]
  have:=UB hx (by omega:0<=o x);omega
 have h1:o x=-1:=by rw[h x,zC e]
 have:=UC n o;omega
theorem Bd.set{n p q:Nat}{o:Nat->Int}(h:Bd n o)(hp:p<n)(hq:q<n)(h0:o q<0)(hv:0<=o p):Bd n (Ea o q (o p+1)):=fun x hx=>by
 have h1:=KO hq h0 (v:=o p+1) (by omega);have h2:=h p hp;have h3:=h x hx
 by_cases e:x=q
 .rw[e,Bb];omega
 rw[AJ e];omega
def ini(F:List Nat)(k:Nat)(x:Nat):Int:=if x∈F.take k then 0 else -1
theorem LJ{F:List Nat}{k p:Nat}(h:F[k]? = some p)(x:Nat):Ea (ini F k) p 0 x=ini F (k+1) x:=by
 unfold Ea ini;obtain⟨hk,rfl⟩:=List.getElem?_eq_some_iff.1 h
 have hm:x∈F.take (k+1)<->x∈F.take k\/x=F[k]:=by
  rw[zO hk,yQ,ym]
 by_cases e:x=F[k]
 .rw[zD e,zD (hm.2 (.inr e))]
 rw[zC e]
 by_cases e2:x∈F.take k
 .rw[zD e2,zD (hm.2 (.inl e2))]
 rw[zC e2,zC fun c=>(hm.1 c).elim e2 e]
theorem Ow(F:List Nat)(x:Nat):ini F F.length x=if x∈F then 0 else -1:=by unfold ini;rw[zn]
theorem JF(s:SR)(Ap Ac Av Af:Option Addr)(cp cc cv cf:Nat)(F:List Int)(w:World)(hE:Env w)(hs:StIn w s Ap Ac Av)(bD:s.cap.length<=300)(hF:InInt w Af F)(bT:F.length<=140737488355328):
 Calls prog 35 #[.agg #[.slice Ap s.ps.length cp,.slice Ac s.cap.length cc,.slice Av s.vot.length cv],.slice Af F.length cf] w (Ny s F w):=by
 have bR:=hs.np;have a9:=zh (fun(k:Nat) (h:k<F.length) (hb:¬Du s.ps.length F k h)=>LH h hb);have a8:=zh (LI (n:=(s.ps.length:Int)) (l:=F));have af:Hid (Bk (w.alloc (.cells #[.slice Ap s.ps.length cp,.slice Ac s.cap.length cc,.slice Av s.vot.length cv] 32)) w.heap.size 32 (SC s Ap Ac Av cp cc cv)):=Bk.new w _ _;have ad:Hid (Below w.heap.size w (w.alloc (.cells #[.slice Ap s.ps.length cp,.slice Ac s.cap.length cc,.slice Av s.vot.length cv] 32))):=(zI _ w).alloc (zB _) _;have ah:Hid (∀e w',(¬(Ao s=true/\AZ s.ps.length F=true))->e=.returned (.tuple #[.slice none 0 0,.int .i64 1])->Below w.heap.size w w'->Ny s F w e w'):=fun e w' h1 h2 h3=>⟨by rw[zC h1];exact h2,h3⟩;have u0:=af.o.c0;have u9:=af.o.lt;replace hE:=zh hE;replace hs:=zh hs;replace hF:=zh hF;go_enter func35,ntmps35;go_wp2;obtain⟨wa,bq⟩:∃x,x=w.alloc (.cells #[.slice Ap s.ps.length cp,.slice Ac s.cap.length cc,.slice Av s.vot.length cv] 32):=⟨_,rfl⟩;rw[<-bq]at af ad ⊢;clear u0 u9 bq
 go_loop [22] (fun i=>∃k:Nat,k<=F.length/\i=.int .i64 (k:Int)/\Hid (∀j (h:j<F.length),j<k->Du s.ps.length F j h)) (fun i=>F.length-(intOf i).toNat)
 case atStart=>exact⟨0,zQ _,rfl,fun j _ h=>absurd h (yB _)⟩
 case round=>
  obtain⟨k,hk,rfl,hI⟩:=hrel
  by_cases hlt:k<F.length
  .obtain ⟨b1,o1,rfl,bB,ag⟩:=(hF.o.below ad.o) (by omega);have e1:=ag k hlt;have e0:Hid (0<k->wa.cell? ⟨b1,o1+(k-1),none⟩=some (.int .i64 (F[k-1]'(by omega)))):=fun h=>ag (k-1) (by omega);have aO:=zh (a9.o k hlt)
   have a5:Hid (Du s.ps.length F k hlt->∀j (h:j<F.length),j<k+1->Du s.ps.length F j h):=fun h j h1 h3=>by
    by_cases e:j=k
    .subst e;exact h
    exact hI.o j h1 (by omega)
   have ao:Hid (Du s.ps.length F k hlt<->(0<=F[k]/\F[k]<s.ps.length)/\(0<k->F[k-1]'(by omega)<F[k])):=wB;obtain⟨x,hx⟩:∃x,x=F[k]:=⟨_,rfl⟩;rw[<-hx]at e1 ao;have j0:(0:Int)<=(k:Int):=by omega
   have j1:(k:Int)<(F.length:Int):=by omega
   clear ag hI hx;have bF:x<0\/(0<=x/\(s.ps.length:Int)<=x)\/(0<=x/\x<s.ps.length):=by omega
   rcases bF with h1|⟨h1,h2⟩|⟨h1,h2⟩
   .have hG:=zh (aO.o fun h=>by have:=(ao.o.1 h).1.1;omega);have m1:decide (x<0)=true:=zG h1;go_wp2;go_ret2;exact ah.o _ _ (fun h=>by rw[hG.o]at h;cases h.2) rfl ad.o
   .have hG:=zh (aO.o fun h=>by have:=(ao.o.1 h).1.2;omega);have m1:decide (x<0)=false:=zH (by omega);have m2:decide ((s.ps.length:Int)<=x)=true:=zG h2;go_wp2;go_ret2;exact ah.o _ _ (fun h=>by rw[hG.o]at h;cases h.2) rfl ad.o
   have m1:decide (x<0)=false:=zH (by omega);have m2:decide ((s.ps.length:Int)<=x)=false:=zH (by omega)
   by_cases hk0:k=0
   .have m3:decide (0<(k:Int))=false:=zH (by omega);have m4:decide (0<k)=false:=zH (by omega);have aM:=zh (a5.o (ao.o.2 ⟨⟨h1,h2⟩,fun h=>by omega⟩));replace hk0:=zh hk0;go_wp2;go_round
    case rel=>exact⟨k+1,by omega,by go_num,aM⟩
    case measure=>simp[intOf];omega
   have m3:decide (0<(k:Int))=true:=zG (by omega);have m4:decide (0<k)=true:=zG (by omega);have e2:=e0.o (by omega);obtain⟨y,hy⟩:∃y,y=F[k-1]'(by omega):=⟨_,rfl⟩;rw[<-hy]at e2;have j2:(0:Int)<=(k:Int)-1:=by omega
   have j3:(k:Int)-1<(F.length:Int):=by omega
   have j4:IntKind.i64.wrap ((k:Int)-1)=(k:Int)-1:=xx _ (by omega);have j5:((k:Int)-1).toNat=k-1:=by omega
   by_cases hxy:y<x
   .have m5:decide (x<=y)=false:=zH (by omega);have aM:=zh (a5.o (ao.o.2 ⟨⟨h1,h2⟩,fun _=>by rw[<-hy];exact hxy⟩));replace hy:=zh hy;go_wp2;go_round
    case rel=>exact⟨k+1,by omega,by go_num,aM⟩
    case measure=>simp[intOf];omega
   have m5:decide (x<=y)=true:=zG (by omega);have hG:=zh (aO.o fun h=>by have h3:=(ao.o.1 h).2 (by omega);rw[<-hy]at h3;omega);replace hy:=zh hy;go_wp2;go_ret2;exact ah.o _ _ (fun h=>by rw[hG.o]at h;cases h.2) rfl ad.o
  obtain rfl:k=F.length:=by omega
  have hL:=zh (a8.o fun j h=>hI.o j h h);clear a9 a8 hI;have u0:=af.o.c0;have u1:=af.o.c1;have u2:=af.o.c2;have u9:=af.o.lt;have ks:=EZ s Ap Ac Av cp cc cv wa (hE.o.below ad.o) (hs.o.below ad.o)
  cases d:Ao s with
  |false=>
   rw[d]at ks;replace ks:=zh ks;replace d:=zh d
   go_wp2_with fail
   refine ks.o.q fun w2 hb=>?_;have ar:=ad.t hb;clear hb;go_wp2;go_ret2;exact ah.o _ _ (fun h=>by rw[d.o]at h;cases h.1) rfl ar.o
  |true=>
   rw[d]at ks;replace ks:=zh ks
   have bQ:s.ps.length<=60:=by
    unfold Ao at d;simp only[zq,yG]at d;exact d.2.1
   have bh:Hid (∀x,x∈s.cap->(0<=x.1/\x.1<s.ps.length)/\(0<=x.2.1/\x.2.1<s.ps.length)):=fun x hx=>by
    unfold Ao at d;simp only[zq]at d;obtain⟨i,hi,rfl⟩:=zg hx;exact⟨(D4 d.2.2.1 hi).1.1,(D4 d.2.2.1 hi).1.2.1⟩
   have aH:=zh (Lh d);have aK:Hid (∀e w' b,e=.returned (.tuple #[.slice (some ⟨b,0,none⟩) s.ps.length s.ps.length,.int .i64 0])->w.heap.size<=b->RoI w' b s.ps.length (rk (Ag s) (toN F))->Below w.heap.size w w'->Ny s F w e w'):=fun e w' b h1 h2 h3 h4=>⟨by rw[zD ⟨d,hL.o⟩];exact⟨b,h1,h2,h3⟩,h4⟩;replace d:=zh d;clear ah
   go_wp2_with fail
   refine ks.o.q fun w2 hb=>?_;have ar:=ad.t hb;have bb:=zh (af.o.below hb);clear hb ks u0 u1 u2 u9 ad af;have kr:=zh (Er s.ps.length w2.heap.size (w2.alloc (.cells #[.int .i64 (-1)] 3)) (by omega) (Oe w2 _ _) (by simp));have au:Hid (Below w.heap.size w (w2.alloc (.cells #[.int .i64 (-1)] 3))):=ar.o.alloc ar.o.size _;have av:=zh (bb.o.alloc (.cells #[.int .i64 (-1)] 3));obtain⟨b0,aR⟩:∃b,b=(w2.alloc (.cells #[.int .i64 (-1)] 3)).heap.size:=⟨_,rfl⟩;rw[<-aR]at kr;have bY:w.heap.size<b0:=by have:=av.o.lt;omega
   go_wp2_with fail
   refine kr.o.mono ?_;rintro e w3 ⟨⟨rfl,aj⟩,hb⟩;have a1:=zh (au.o.trans (hb.mono (by have:=au.o.size;omega)));have bc:=zh (av.o.below (by rw[<-aR];exact hb));have aA:Hid (RoI w3 b0 s.ps.length (ini (toN F) 0)):=(RoI.of_row aj).congr fun x _=>by unfold ini;rw[List.take_zero,zC (by simp)]
   clear hb kr aR aj ar bb au av;go_wp2
   go_loopw [56] (fun i wr=>∃(k:Nat)(o:Nat->Int),k<=F.length/\i=.int .i64 (k:Int)/\Hid (Kp [b0] w3 wr)/\Hid (RoI wr b0 s.ps.length o)/\Hid (∀x,o x=ini (toN F) k x)) (fun i _=>F.length-(intOf i).toNat)
   case atStart=>exact⟨0,_,zQ _,rfl,Kp.refl _ _,aA,fun _=>rfl⟩
   case round=>
    obtain⟨k,o,hk,rfl,hK,hR,ho⟩:=hrel;clear aA;have an:Hid (Below w.heap.size w wr):=hK.o.to_below a1.o fun x hx=>by rw[List.mem_singleton.1 hx];omega
    by_cases hlt:k<F.length
    .obtain ⟨p,bm,bX,bn⟩:=Nz hL.o hlt;obtain⟨b1,o1,rfl,bB,ag⟩:=(hF.o.below an.o) (by omega);have e1:=ag k hlt;rw[bm]at e1;have ap:p<s.ps.length:=by omega
     have e2:=hR.o.cell p ap;have e3:=hR.o.fr p;have aP:=zh (hR.o.set ap 0);have aN:=zh (hK.o.set (a:=⟨b0,p,none⟩) (.int .i64 0) (.inl (List.mem_singleton.2 rfl)))
     have bK:Hid (∀x,Ea o p 0 x=ini (toN F) (k+1) x):=fun x=>by
      rw[<-LJ bn x];unfold Ea;rw[ho.o x]
     have j0:(0:Int)<=(k:Int):=by omega
     have j1:(k:Int)<(F.length:Int):=by omega
     have j2:(0:Int)<=(p:Int):=by omega
     clear ag bm bn;go_wp2;exact⟨⟨k+1,_,by omega,by go_num,aN,aP,bK⟩,by simp only[intOf];omega⟩
    obtain rfl:k=F.length:=by omega
    have aw:=zh (bc.o.kp hK.o (by simp;omega))
    have aV:Hid (∀x,o x=if x∈toN F then 0 else -1):=fun x=>by
     rw[ho.o x,<-Ow];have:(toN F).length=F.length:=by simp[toN]
     rw[this]
    have u0:=aw.o.c0;have u1:=aw.o.c1;have u2:=aw.o.c2;have u9:=aw.o.lt;have ko:=zh (Sm s Ap Ac Av cp cc cv wr (hs.o.below an.o) (by omega) bD bh.o);have a3:=zh (hF.o.below an.o);clear ho hK bc a1 hF
    go_wp2_with fail
    refine ko.o.mono ?_;rintro e w4 ⟨⟨R,v,rfl,hG⟩,hb⟩;have bS:=hb.size;have bs:Hid (Below w.heap.size w w4):=an.o.trans (hb.mono an.o.size);have aQ:=zh (hR.o.below hb);have bN:b0<w4.heap.size:=aQ.o.lt
    have bu:F.length<=1000:=by
     have h1:=Cv s.ps.length (toN F) (JE hL.o) fun x hx=>N0 hL.o hx;have h2:(toN F).length=F.length:=by simp[toN]
     omega
    have a4:=zh (a3.o.below hb)
    have kc:=zh (PN Af cf F w4 a4.o (fun x hx=>by
     obtain⟨i,hi,rfl⟩:=zg hx;exact(Et hL.o hi).1.1) bu)
    have aJ:Hid (b0≠R/\∀i b,i<s.ps.length->(v i).ownBlock=some b->b∉[b0]):=by
     have h1:=hR.o.lt;have h2:=hG.lowR;refine⟨by omega,fun i b hi e hm=>?_⟩;have h3:=((hG.rows i hi).lt b e).1;rw[List.mem_singleton.1 hm]at h3;omega
    have bW:=hG.lt;replace hG:=zh hG;have ae:=zh (Bf.start (E:=Ag s) (JE hL.o) (fun f hf=>N0 hL.o hf) fun x _=>aV.o x);have ab:=zh (Bd.start (n:=s.ps.length) aV.o);have ax:Hid (∀p q,q∈Cn (Ag s) (Ag s).length p<->(p,q)∈Ag s):=fun _ _=>L6
    have bd:Hid (∀p,(Cn (Ag s) (Ag s).length p).length<=300):=fun p=>by
     unfold Cn;rw[zW];have h1:=zr (fun x:Nat×Nat=>decide (x.1=p)) ((Ag s).take (Ag s).length);have h2:((Ag s).take (Ag s).length).length<=(Ag s).length:=wk _ _;have h3:(Ag s).length=s.cap.length:=by simp[Ag]
     omega
    obtain⟨adj,ay⟩:∃a,a=Cn (Ag s) (Ag s).length:=⟨_,rfl⟩;rw[<-ay]at hG ax bd;have a2:Hid (∀f,f∈toN F->f<s.ps.length):=fun f hf=>N0 hL.o hf;obtain⟨i0,aU,br⟩:=Option.map_eq_some_iff.1 FG;simp only[Prod.mk.injEq]at br;obtain⟨aY,aZ,a0⟩:=br;replace aU:=zh aU;replace aY:=zh aY;replace aZ:=zh aZ;replace a0:=zh a0;clear hb ko hR an u0 u1 u2 u9 aw ay aV a3 a4 bh
    go_wp2_with fail
    refine kc.o.mono ?_;rintro e w5 ⟨⟨vq,rfl,hQ⟩,hb⟩;have a7:=zh ((Kp.refl [b0] w4).below hb);have ba:=zh (aQ.o.below hb);replace hQ:=zh hQ;clear hb kc aQ;go_wp2
    go_loopg [13] ((toN F).length+Fz s.ps.length o) (fun m u wr=>∃(o:Nat->Int)(queue:List Nat),m=queue.length+Fz s.ps.length o/\Hid (QIn wr w4.heap.size u queue)/\Hid (Kp [b0] w4 wr)/\Hid (RoI wr b0 s.ps.length o)/\Hid (Bf s.ps.length (Ag s) (toN F) (fun _=>False) o queue)/\Hid (Bd s.ps.length o))
    case atStart=>exact⟨_,_,rfl,hQ,a7,ba,ae,ab⟩
    case round=>
     clear hQ a7 ba ae ab;obtain⟨o1,queue,hm,hQ,hK,hR,ae,ab⟩:=hrel
     cases queue with
     |nil=>
      obtain⟨A,c,rfl⟩:=hQ.o.form;have bA:Hid (RoI wr b0 s.ps.length (rk (Ag s) (toN F))):=hR.o.congr fun x hx=>ae.o.end a2.o aH.o hx;have bt:Hid (Below w.heap.size w wr):=hK.o.to_below bs.o fun x hx=>by rw[List.mem_singleton.1 hx];omega
      clear hQ hm;go_wp2;go_ret2;exact aK.o _ _ b0 rfl (by omega) bA.o bt.o
     |cons p queue=>
      obtain⟨g,of,cap,rfl,_,_,bO,bE,_⟩:=hQ.o.head;have ap:=(ae.o.pos p (zf ..)).1;have aL:=hG.o.kp hK.o (by simp;exact fun e=>aJ.o.1 e.symm) aJ.o.2;have d1:=aL.hd p ap;have bP:=aL.lt;obtain⟨A,cr,aX,aj⟩:=SG (hG.o.rows p ap);rw[aX]at d1;have aa:=zh (Bq.start ae.o);have bi:Hid (queue.length+Fz s.ps.length o1<gk):=by rw[hm];simp only[zZ];unfold Hid;omega
      have aF:=zh (fun q (h:(p,q)∈Ag s)=>(ax.o p q).2 h);have aI:=zh (fun q (h:q∈adj p)=>(ax.o p q).1 h);have bM:=bd.o p
      have aT:Hid (∀j (hj:j<(adj p).length),∃gg,A=some ⟨gg,0,none⟩/\gg<w4.heap.size/\gg∉[b0]/\w4.cell? ⟨gg,j,none⟩=some (.int .i64 ((adj p)[j]:Int))):=fun j hj=>by
       obtain⟨gg,hA,h1,h2⟩:=aj j hj;exact⟨gg,hA,h1,aJ.o.2 p gg ap (by rw[aX,hA];rfl),h2⟩
      have p0:(0:Int)<=(p:Int):=by omega
      have p1:(p:Int)<(s.ps.length:Int):=by omega
      have q0:(0:Int)<(queue.length:Int)+1:=by omega
      clear aL aX aj hm ae;go_wp2
      go_loopw [13,81] (fun u ix wz=>∃(j:Nat)(o2:Nat->Int)(q2:List Nat)(A2:Option Addr)(c2:Nat),j<=(adj p).length/\u=.slice A2 (q2.length+1) c2/\ix=.int .i64 (j:Int)/\Hid (QIn wz w4.heap.size (.slice A2 (q2.length+1) c2) (p::q2))/\Hid (Kp [b0] w4 wz)/\Hid (RoI wz b0 s.ps.length o2)/\Hid (Bq s.ps.length (Ag s) (toN F) p (o1 p) ((adj p).take j) o2 q2)/\Hid (Bd s.ps.length o2)/\Hid (q2.length+Fz s.ps.length o2<=queue.length+Fz s.ps.length o1)) (fun _ ix _=>(adj p).length-(intOf ix).toNat)
      case atStart=>exact⟨0,o1,queue,_,_,zQ _,rfl,rfl,hQ,hK,hR,aa,ab,zB _⟩
      case round=>
       clear hQ hK hR aa ab;obtain⟨j,o2,q2,A2,c2,hj,rfl,rfl,hQ,hK,hR,aa,ab,aB⟩:=hrel
       by_cases hjl:j<(adj p).length
       .obtain ⟨gg,rfl,bG,bH,bg⟩:=aT.o j hjl;have e1:=(zT (a:=⟨gg,j,none⟩) (hK.o.block gg bG bH)).trans bg;have aC:=aI.o _ (zN hjl);have aE:(adj p).take (j+1)=(adj p).take j++[(adj p)[j]]:=zO hjl;obtain⟨q,bp⟩:∃x,x=(adj p)[j]:=⟨_,rfl⟩;rw[<-bp]at e1 aC aE;have aq:q<s.ps.length:=(aH.o _ aC).2;have e2:=hR.o.cell q aq;have j0:(0:Int)<=(j:Int):=by omega
        have j1:(j:Int)<((adj p).length:Int):=by omega
        have j2:(0:Int)<=(q:Int):=by omega
        have j3:(q:Int)<(s.ps.length:Int):=by omega
        clear bp bg aT
        by_cases hneg:o2 q<0
        .have m1:decide (o2 q<0)=true:=zG hneg;have am:=aa.o.here;have aG:=aa.o.cur;have bL:=aa.o.v0;have e3:=hR.o.cell p am;have e4:=hR.o.fr q;have bf:=ab.o p am;have jw:IntKind.i64.wrap (o2 p+1)=o2 p+1:=xx _ (by omega);have aP:=zh (hR.o.set aq (o2 p+1));have aN:=zh (hK.o.set (a:=⟨b0,q,none⟩) (.int .i64 (o2 p+1)) (.inl (List.mem_singleton.2 rfl)));have aW:(Value.slice A2 (q2.length+1) c2).ownBlock≠some b0:=fun e=>by have:=(hQ.o.block e).1;omega
         have bw:=zh (hQ.o.set (a:=⟨b0,q,none⟩) aW (.int .i64 (o2 p+1)))
         have ak:Hid (Bq s.ps.length (Ag s) (toN F) p (o1 p) ((adj p).take (j+1)) (Ea o2 q (o2 p+1)) (q2++[q])):=by
          rw[aG,aE];exact aa.o.set aq aC hneg
         have be:=zh (ab.o.set am aq hneg (by omega));have bJ:=KO aq hneg (v:=o2 p+1) (by omega)
         have bk:Hid ((q2++[q]).length+Fz s.ps.length (Ea o2 q (o2 p+1))<=queue.length+Fz s.ps.length o1):=by
          have h:=aB.o;unfold Hid;rw[zV,xU];omega
         have bx:=zh (bw.o.alloc (.cells #[.int .i64 (q:Int)] 3));have aA:=zh (aP.o.alloc (.cells #[.int .i64 (q:Int)] 3));have a6:=zh (aN.o.alloc (.cells #[.int .i64 (q:Int)] 3));have az:w4.heap.size<=((wr.setCell ⟨b0,q,none⟩ (.int .i64 (o2 p+1))).alloc (.cells #[.int .i64 (q:Int)] 3)).heap.size:=a6.o.size
         have al:(p::q2).length+1<=400:=by
          have h1:=Cv s.ps.length (p::q2) (List.nodup_cons.2 ⟨aa.o.off,aa.o.inv.nodup⟩) fun x hx=>by
           rcases List.mem_cons.1 hx with rfl|hx
           .exact am
           exact(aa.o.inv.pos x hx).1
          omega
         replace al:=zh al;replace az:=zh az;have bC:Hid (∀b,(Value.slice A2 (q2.length+1) c2).ownBlock=some b->b∈[b0]\/w4.heap.size<=b):=fun b e=>.inr (hQ.o.block e).1;have bo:=zh aW;clear hR hK hQ bf aG bL bJ aW hneg
         have had:Hid (((wr.setCell ⟨b0,q,none⟩ (.int .i64 (o2 p+1))).alloc (.cells #[.int .i64 (q:Int)] 3)).cell? ⟨wr.heap.size,0,none⟩=some (.int .i64 (q:Int))):=by
          have h:=Oe (wr.setCell ⟨b0,q,none⟩ (.int .i64 (o2 p+1))) (.int .i64 (q:Int)) 3
          rwa [World.size_setCell]at h
         go_wp2_with (at_builtin;refine Fnq _ rfl _ _ 37 rfl w4.heap.size 3 i0 (.int .i64 0) 8 underlying37 aU.o aY.o aZ.o a0.o rfl (.slice A2 (q2.length+1) c2) (p::q2) q rfl bx.o az.o ⟨wr.heap.size,0,none⟩ 1 rfl had.o (by have:=al.o;omega) (by have:=al.o;unfold maxLen;omega) ?_;intro vb wb aD aS bI;have bv:=zh (a6.o.grown aS bC.o);have bz:=zh (aA.o.grown aS bo.o);obtain⟨A9,c9,rfl⟩:=aD.form;replace aD:=zh aD;clear aS bI)
         exact⟨⟨j+1,_,q2++[q],A9,c9,by omega,by rw[zV,xU],by go_num,by have h:=aD.o;unfold Hid;simpa using h,bv,bz,ak,be,bk⟩,by simp only[intOf];omega⟩
        have m1:decide (o2 q<0)=false:=zH hneg;have ak:=zh (aa.o.skip aq (by omega));rw[<-aE]at ak;clear aE aC;go_wp2;exact⟨⟨j+1,o2,q2,_,_,by omega,rfl,by go_num,hQ,hK,hR,ak,ab,aB⟩,by simp only[intOf];omega⟩
       obtain rfl:j=(adj p).length:=by omega
       have ae:=zh (aa.o.end fun q hq=>by rw[zn];exact aF.o q hq);obtain⟨g9,o9,c9,he,_,_,bU,_,ai⟩:=hQ.o.head;injection he with he1 _ he3;subst he1 he3;have bj:q2.length+Fz s.ps.length o2<gk:=yA aB.o bi.o;have z1:(1:Int)<=(q2.length:Int)+1:=by omega
       have z2:(q2.length:Int)+1<=(c2:Int):=by omega
       replace ab:=zh ab.o;clear aa hQ aB bi aF aI aT
       by_cases ag:c2=1
       .subst ag;have h0:q2=[]:=List.length_eq_zero_iff.1 (by omega);subst h0;rw[zD rfl]at ai;replace ai:Hid (QIn wr w4.heap.size (.slice (some ⟨g9,o9,none⟩) 0 0) []):=ai;go_wp2
        go_roundg (Fz s.ps.length o2)
        case measure=>simpa using bj
        case rel=>exact⟨o2,[],by simp,ai,hK,hR,ae,ab⟩
       rw[zC ag]at ai;replace ai:=zh ai;go_wp2
       go_roundg (q2.length+Fz s.ps.length o2)
       case measure=>exact bj
       case rel=>exact⟨o2,q2,rfl,ai,hK,hR,ae,ab⟩
end Ci
end
section
open Go.RowKit Go.Shelf
namespace Ci
open Nt
open Classical
noncomputable def Dv(s:SR):List (List Int):=(Ar s.ps.length (Ag s)).map fun l=>l.map fun(q:Nat)=>(q:Int)
def K1(s:SR)(w:World)(e:Ending)(w':World):Prop :=
 (if Ao s=true then ∃A c l,e=.returned (.tuple #[.slice A l.length c,.int .i64 0])/\SB w' A l/\baR l=Dv s
   else e=.returned (.tuple #[.slice none 0 0,.int .i64 1]))/\Below w.heap.size w w'
theorem EM(s:SR)(Ap Ac Av:Option Addr)(cp cc cv:Nat)(w:World)(hE:Env w)(hs:StIn w s Ap Ac Av)(cq:s.cap.length<=300):
 Calls prog 14 #[.agg #[.slice Ap s.ps.length cp,.slice Ac s.cap.length cc,.slice Av s.vot.length cv]] w (K1 s w):=by
 have aq:Hid (Bk (w.alloc (.cells #[.slice Ap s.ps.length cp,.slice Ac s.cap.length cc,.slice Av s.vot.length cv] 32)) w.heap.size 32 (SC s Ap Ac Av cp cc cv)):=Bk.new w _ _;have am:Hid (Below w.heap.size w (w.alloc (.cells #[.slice Ap s.ps.length cp,.slice Ac s.cap.length cc,.slice Av s.vot.length cv] 32))):=(zI _ w).alloc (zB _) _;have b2:=@run_makeMap prog;have u0:=aq.o.c0;have u1:=aq.o.c1;have u2:=aq.o.c2;have u9:=aq.o.lt;obtain⟨wa,bD⟩:∃x,x=w.alloc (.cells #[.slice Ap s.ps.length cp,.slice Ac s.cap.length cc,.slice Av s.vot.length cv] 32):=⟨_,rfl⟩;have ks:=EZ s Ap Ac Av cp cc cv (w.alloc (.cells #[.slice Ap s.ps.length cp,.slice Ac s.cap.length cc,.slice Av s.vot.length cv] 32)) (hE.below am.o) (hs.below am.o);have b7:(w.alloc (.cells #[.slice Ap s.ps.length cp,.slice Ac s.cap.length cc,.slice Av s.vot.length cv] 32)).heap.size=w.heap.size+1:=by simp
 rw[<-bD]at aq am u0 u1 u2 u9 ks b7
 cases al:Ao s with
 |false=>
  have bI:Hid (∀e w',e=.returned (.tuple #[.slice none 0 0,.int .i64 1])->Below w.heap.size w w'->K1 s w e w'):=fun e w' h2 h3=>⟨by rw[zC (by rw[al];simp)];exact h2,h3⟩;rw[al]at ks;replace ks:=zh ks;replace hs:=zh hs;clear b2;subst bD;go_enter func14,ntmps14
  go_wp2_with fail
  refine ks.o.q fun w2 hb=>?_;have az:=am.t hb;clear hb;go_wp2;go_ret2;exact bI.o _ _ rfl az.o
 |true=>
  have cI:s.ps.length<=60:=by
   have h:=al;unfold Ao at h;simp only[zq,yG]at h;exact h.2.1
  have cr:Hid (∀x,x∈s.cap->(0<=x.1/\x.1<s.ps.length)/\(0<=x.2.1/\x.2.1<s.ps.length)):=fun x hx=>by
   have h:=al;unfold Ao at h;simp only[zq]at h;obtain⟨i,hi,rfl⟩:=zg hx;exact⟨(D4 h.2.2.1 hi).1.1,(D4 h.2.2.1 hi).1.2.1⟩
  have aa:=zh (Lh al);have bm:Hid (∀e w' A c k l,e=.returned (.tuple #[.slice A k c,.int .i64 0])->k=List.length l->SB w' A l->baR l=Dv s->Below w.heap.size w w'->K1 s w e w'):=fun e w' A c k l h1 hk h2 h3 h4=>⟨by rw[zD al];exact⟨A,c,l,by rw[<-hk];exact h1,h2,h3⟩,h4⟩;rw[al]at ks;replace ks:=zh ks;replace hs:=zh hs;replace al:=zh al;have cz:=wT (P:=prog) 37 3 (.int .i64 0) 8 underlying37 FG rfl .i64 .i64 s.ps.length (by omega) (by omega);have bx:=zh (fun w2 h=>Sm s Ap Ac Av cp cc cv w2 h (by omega) cq cr.o)
  have bq:Hid (∀p,(Cn (Ag s) (Ag s).length p).length<=300):=fun p=>by
   unfold Cn;rw[zW];have h1:=zr (fun x:Nat×Nat=>decide (x.1=p)) ((Ag s).take (Ag s).length);have h2:((Ag s).take (Ag s).length).length<=(Ag s).length:=wk _ _;have h3:(Ag s).length=s.cap.length:=by simp[Ag]
   omega
  have ai:Hid (∀p q,q∈Cn (Ag s) (Ag s).length p<->(p,q)∈Ag s):=fun _ _=>L6
  have ba:Hid (Dv s=(ords s.ps.length (Ag s)).map fun p=>(CL s.ps.length (Ag s) p).map fun(q:Nat)=>(q:Int)):=by
   unfold Hid Dv Ar;rw[xm];rfl
  obtain⟨E,bJ⟩:∃E,E=Ag s:=⟨_,rfl⟩;obtain⟨adj,aI⟩:∃a,a=Cn (Ag s) (Ag s).length:=⟨_,rfl⟩;rw[<-aI]at bx bq ai;rw[<-bJ]at aa ai ba;clear bJ aI;obtain⟨i0,bu,cf⟩:=Option.map_eq_some_iff.1 FG;simp only[Prod.mk.injEq]at cf;obtain⟨aD,bE,aw⟩:=cf;replace bu:=zh bu;replace aD:=zh aD;replace bE:=zh bE;replace aw:=zh aw;subst bD;go_enter func14,ntmps14
  go_wp2_with fail
  refine ks.o.q fun w2 hb=>?_;have az:=am.t hb;have aH:=zh (aq.o.below hb);have kg:=zh (bx.o w2 (hs.o.below az.o));clear hb ks am aq u0 u1 u2 u9 bx;have u0:=aH.o.c0;have u1:=aH.o.c1;have u2:=aH.o.c2;have u9:=aH.o.lt
  go_wp2_with fail
  refine kg.o.mono ?_;rintro e w3 ⟨⟨R,vg,rfl,hG⟩,hb⟩;have bh:=az.t hb;clear hb kg az aH u0 u1 u2 u9;have kt:=zh (Nm R s.ps.length w2.heap.size vg adj w3 (by omega) (fun p _=>by have:=bq.o p;omega) (fun p q _ h=>(aa.o _ ((ai.o p q).1 h)).2) hG);replace hG:=zh hG
  go_wp2_with fail
  refine kt.o.mono ?_;rintro e w4 ⟨⟨R2,vb,T,rfl,aB,hT⟩,hb⟩;have aA:=bh.t hb;have aS:=zh (hG.o.below hb)
  have bP:Hid (∀p q,p<s.ps.length->(q∈T p<->(p,q)∈LF E)):=fun p q hp=>by
   rw[hT.1 p q hp,EL,<-ai.o];constructor
   .rintro(⟨_,h⟩|⟨_,h⟩)
    .exact h
    simp at h
   intro h;exact .inl ⟨(aa.o _ ((ai.o q p).1 h)).1,h⟩
  have bO:Hid (∀p,(T p).length<=60000):=fun p=>by have:=hT.2 p;omega
  replace aB:=zh aB;clear hb kt bh hG hT;have aU:=zh (P1.start E s.ps.length w4 3);have bi:Hid (Below w.heap.size w (((w4.alloc (.map #[] 0)).alloc (.cells (madeCells #[.int .i64 0] s.ps.length) 3)).alloc (.map #[] 0))):=((aA.o.alloc aA.o.size _).alloc (by have:=aA.o.size;simp;omega) _).alloc (by have:=aA.o.size;simp;omega) _;have bj:Hid (Below w4.heap.size w4 (((w4.alloc (.map #[] 0)).alloc (.cells (madeCells #[.int .i64 0] s.ps.length) 3)).alloc (.map #[] 0))):=(((zI _ w4).alloc (zB _) _).alloc (by simp) _).alloc (by simp<;>omega) _;have ad:Hid ((((w4.alloc (.map #[] 0)).alloc (.cells (madeCells #[.int .i64 0] s.ps.length) 3)).alloc (.map #[] 0)).heap.size=w4.heap.size+3):=by unfold Hid;simp
  have ag:Hid (R<w4.heap.size/\R2<w4.heap.size/\(∀i b,i<s.ps.length->(vg i).ownBlock=some b->b<w4.heap.size)/\(∀i b,i<s.ps.length->(vb i).ownBlock=some b->b<w4.heap.size)) :=
   ⟨aS.o.lt,aB.o.lt,fun i b hi e=>((aS.o.rows i hi).lt b e).2,fun i b hi e=>((aB.o.rows i hi).lt b e).2⟩
  have bk:=zh (aS.o.below bj.o);have aT:=zh (aB.o.below bj.o);have cm:w.heap.size<=w4.heap.size:=aA.o.size;go_wp2;obtain⟨w0,cb⟩:∃x,x=(((w4.alloc (.map #[] 0)).alloc (.cells (madeCells #[.int .i64 0] s.ps.length) 3)).alloc (.map #[] 0)):=⟨_,rfl⟩;rw[<-cb]at aU bi ad bk aT ⊢;obtain⟨S,hS⟩:∃x,x=w4.heap.size:=⟨_,rfl⟩;rw[<-hS]at aU ad ag cm ⊢;clear cz b2 bj aS aB cb hS aA
  go_loopw [37] (fun ix wr=>∃(p:Nat)(v:Nat->Value)(F:Nat->Int),p<=s.ps.length/\ix=.int .i64 (p:Int)/\Hid (P1 E s.ps.length w0 S p 0 v F wr)) (fun ix _=>s.ps.length-(intOf ix).toNat)
  case atStart=>exact⟨0,_,_,zQ _,rfl,aU⟩
  case round=>
   obtain⟨p,v,F,hp,rfl,hP⟩:=hrel;clear aU
   by_cases hpn:p<s.ps.length
   .have ah:=hP.o.look hpn (by omega);have p0:(0:Int)<=(p:Int):=by omega
    have p1:(p:Int)<(s.ps.length:Int):=by omega
    by_cases hfp:fst E p=p
    .rw [BR (fun c=>c hfp)]at ah;have aj:=bk.o.kp hP.o.kp (by have:=ag.o.1;simp;omega) (fun i b hi e=>by have:=ag.o.2.2.1 i b hi e;simp;omega);have k1:=zh (GZ E R s.ps.length _ p vg adj wr (by omega) (fun x q _=>ai.o x q) aa.o (fun x _=>by have:=bq.o x;omega) hpn aj);replace hfp:=zh hfp;clear aj
     go_wp2_with fail
     refine k1.o.mono ?_;rintro e w5 ⟨⟨m1,rfl,cx,ax⟩,hb⟩;have aV:=zh (hP.o.below hb);have cG:S+3<=m1:=by have:=hP.o.kp.size;have:=ad.o;omega
     clear hb cx hP k1 ah;have aj:=aT.o.kp aV.o.kp (by have:=ag.o.2.1;simp;omega) (fun i b hi e=>by have:=ag.o.2.2.2 i b hi e;simp;omega);have k2:=zh (GZ (LF E) R2 s.ps.length _ p vb T w5 (by omega) (fun x q hx=>bP.o x q hx) (U6 aa.o) (fun x _=>by have:=bO.o x;omega) hpn aj);replace ax:=zh ax;clear aj
     go_wp2_with fail
     refine k2.o.mono ?_;rintro e w6 ⟨⟨m2,rfl,cy,aG⟩,hb⟩;have bo:=zh (aV.o.below hb);have bp:=zh (ax.o.below hb);have cH:S+3<=m2:=by have:=aV.o.kp.size;have:=ad.o;omega
     replace aG:=zh aG;clear hb cy aV ax k2
     have b9:Hid (∀b,(v p).ownBlock=some b->w6.heap.size<=b):=fun b e=>by
      rw[bo.o.lm.nil p hpn (by unfold lsQ;rw[zD rfl,JB])]at e
      cases e
     have bM:Hid (Kp [S,S+1,S+1+1] w6 w6):=Kp.refl _ _;go_wp2
     go_loopw [51] (fun ix wz=>∃(q:Nat)(v2:Nat->Value)(F2:Nat->Int),q<=s.ps.length/\ix=.int .i64 (q:Int)/\Hid (P1 E s.ps.length w0 S p q v2 F2 wz)/\Hid (Kp [S,S+1,S+1+1] w6 wz)/\Hid (∀b,(v2 p).ownBlock=some b->w6.heap.size<=b)) (fun ix _=>s.ps.length-(intOf ix).toNat)
     case atStart=>exact⟨0,v,F,zQ _,rfl,bo,bM,b9⟩
     case round=>
      obtain⟨q,v2,F2,hq,rfl,hP,hK,hv⟩:=hrel;clear bo bM b9
      by_cases ak:q<s.ps.length
      .have bv:=(bp.o.kp hK.o (by simp;omega)).look ak (by omega);have bw:=(aG.o.kp hK.o (by simp;omega)).look ak (by omega);have q0:(0:Int)<=(q:Int):=by omega
       have q1:(q:Int)<(s.ps.length:Int):=by omega
       by_cases hr1:Reach E p q
       .rw [Cp hr1]at bv
        by_cases hr2:Reach E q p
        .rw [Cp (J9.2 hr2)]at bw;obtain⟨W1,cB,_,aW,av⟩:=hP.o.step ad.o ⟨hr1,hr2⟩ hpn ak (by omega) hfp.o;obtain⟨an,b8,bb⟩:=av _ rfl;obtain⟨d,ay⟩:=bb _ rfl;have c1:=aW.cell q ak;have c2:=aW.fr q;have c3:=aW.lt
         have had:Hid (∀j u,[(Value.int .i64 (q:Int))][j]? = some u->((W1.setCell ⟨S+1,q,none⟩ (.int .i64 (p:Int))).alloc (.cells #[.int .i64 (q:Int)] 3)).cell? (Addr.add ⟨W1.heap.size,0,none⟩ j)=some u):=by
          have h:=BH (W1.setCell ⟨S+1,q,none⟩ (.int .i64 (p:Int))) (.int .i64 (q:Int)) 3
          rwa [World.size_setCell]at h
         have b1:Hid ((lsQ E s.ps.length p q p).length<=100):=by
          unfold Hid lsQ;rw[zD rfl];unfold part;have h:=zr (fun y=>decide (Mut E p y)) (List.range q);rw[yZ]at h;omega
         have cn:Hid (w0.heap.size<=((W1.setCell ⟨S+1,q,none⟩ (.int .i64 (p:Int))).alloc (.cells #[.int .i64 (q:Int)] 3)).heap.size):=by
          have h1:=hP.o.kp.size;unfold Hid;rw[zX];omega
         obtain⟨vp,af⟩:∃x,x=v2 p:=⟨_,rfl⟩;rw[<-af]at an d ay;rw[<-af]at hv;replace af:=zh af;replace d:=zh d;replace ay:=zh ay;clear hP av bb aW hr1 hr2 b8
         go_wp2_with (at_builtin;refine wpList_append_new _ rfl _ _ 37 rfl w0.heap.size 3 i0 (.int .i64 0) 1 8 underlying37 bu.o aD.o bE.o aw.o rfl (by decide) vp _ _ rfl d.o ⟨W1.heap.size,0,none⟩ 1 1 [.int .i64 (q:Int)] rfl rfl had.o (AM _ rfl) (by decide) (by have:=b1.o;unfold maxLen;omega) (by have:=b1.o;omega) cn.o ?_;intro bG bH aC aL a1;obtain⟨W4,bA,ap,bL⟩:=ay.o bG bH aC aL (by simpa using a1);obtain⟨bn,bB⟩:=bL w6 hK.o hv.o;replace ap:=zh ap;replace bn:=zh bn;replace bB:=zh bB;clear aC aL a1 bL)
         exact⟨⟨q+1,_,_,by omega,by go_num,ap,bn,fun b e=>bB.o b (by simpa using e)⟩,by simp only[intOf];omega⟩
        rw[BR (fun c=>hr2 (J9.1 c))]at bw;have ao:=zh (hP.o.skip fun c=>hr2 c.2);clear hP hr1 hr2;go_wp2;exact⟨⟨q+1,v2,F2,by omega,by go_num,ao,hK,hv⟩,by simp only[intOf];omega⟩
       rw[BR hr1]at bv;have ao:=zh (hP.o.skip fun c=>hr1 c.1);clear hP hr1 bw;go_wp2;exact⟨⟨q+1,v2,F2,by omega,by go_num,ao,hK,hv⟩,by simp only[intOf];omega⟩
      obtain rfl:q=s.ps.length:=by omega
      have ao:=zh (hP.o.next hfp.o hpn (by omega));clear hP;go_wp2;exact⟨⟨p+1,v2,F2,by omega,by go_num,ao⟩,by simp only[intOf];omega⟩
    rw[Cp hfp]at ah;have ao:=zh (hP.o.had hfp);clear hfp hP;go_wp2;exact⟨⟨p+1,v,F,by omega,by go_num,ao⟩,by simp only[intOf];omega⟩
   obtain rfl:p=s.ps.length:=by omega
   obtain⟨w7,cC⟩:∃x,x=wr:=⟨_,rfl⟩;subst cC;have bN:=zh (P2.start hP.o aa.o);have hF:Hid (∀x,x<s.ps.length->F x=(fst E x:Int)):=fun x hx=>hP.o.fs x hx (Wc hx);have a3:=zh hP.o.ro
   have au:Hid (∀x,x∈leasts s.ps.length E->w7.ownsRow w0.heap.size 3 1 (v x) (CL s.ps.length E x).length (Bw (CL s.ps.length E x))):=fun x hx=>by
    have cd:=(Bz.1 hx).1;have h:=hP.o.lm.rows x cd
    rwa [DS,Ov cd,zD hx]at h
   have bK:=zh (aT.o.kp hP.o.kp (by have:=ag.o.2.1;simp;omega) (fun i b hi e=>by have:=ag.o.2.2.2 i b hi e;simp;omega));have cg:Hid (Below w.heap.size w w7):=hP.o.kp.to_below bi.o fun x hx=>by simp at hx;omega
   have ck:S<w7.heap.size:=by have:=hP.o.kp.size;have:=ad.o;omega
   have ae:Hid (R2∉[S]/\(∀i b,i<s.ps.length->(vb i).ownBlock=some b->b∉[S])/\S+1∉[S]/\∀x b,x∈leasts s.ps.length E->(v x).ownBlock=some b->b∉[S]):=by
    refine⟨by have:=ag.o.2.1;simp;omega,fun i b hi e=>by have:=ag.o.2.2.2 i b hi e;simp;omega,by simp,fun x b hx e=>?_⟩;have h1:=((au.o x hx).lt b e).1;have h2:=ad.o;simp;omega
   clear hP aT bk ag bi ad;go_wp2
   go_loopg [13] (leasts s.ps.length E).length (fun m u wz=>∃(A:Option Addr)(c:Nat)(pre left:List Nat),m=left.length/\u=.slice A pre.length c/\Hid (P2 E s.ps.length w7 S v pre left (.slice A pre.length c) wz))
   case atStart=>exact⟨none,0,[],_,rfl,rfl,bN⟩
   case round=>
    obtain⟨A,c,pre,left,hm,rfl,hP⟩:=hrel;clear bN;have bZ:=hP.o.len 3
    by_cases hl0:left=[]
    .subst hl0;have b4:Hid (ords s.ps.length E=pre):=hP.o.st.end
     have ab:Hid (∀x,x∈pre->x∈leasts s.ps.length E):=fun x hx=>by
      have:=hP.o.st.had x hx;exact Bz.2 ⟨this.1,this.2.1⟩
     have cj:=zh (SD (E:=E) (n:=s.ps.length) (by omega) hP.o.o fun p hp=>Sp (au.o p (ab.o p hp)) hP.o.kp fun b e=>ae.o.2.2.2 p b (ab.o p hp) e);have ch:Hid (Below w.heap.size w wr):=hP.o.kp.to_below cg.o fun x hx=>by simp at hx;omega
     have cu:Hid (pre.length=(BP E s.ps.length v pre).length):=by unfold Hid BP;simp
     clear hm hP;go_wp2;go_ret2;exact bm.o _ _ A c _ _ rfl cu.o cj.o (by rw[PK,ba.o,b4.o]) ch.o
    have bv:0<(left.length:Int):=by have:=List.length_pos_iff.2 hl0;omega
    have a8:Hid (∀x,x<0->x∈left->¬Fy E left x):=fun x hx=>absurd hx (yB _)
    have ar:Hid (∀x,x∈left->x<s.ps.length/\x∈leasts s.ps.length E):=fun x hx=>by
     have:=hP.o.st.ok.own x hx;exact⟨this.1,Bz.2 this⟩
    go_wp2;go_step3;go_wp2;go_step3;go_wp2
    go_loopw [13,83] (fun u ix wz=>∃p:Nat,p<=s.ps.length/\u=.slice A pre.length c/\ix=.int .i64 (p:Int)/\wz=wr/\Hid (∀x,x<p->x∈left->¬Fy E left x)) (fun _ ix _=>s.ps.length-(intOf ix).toNat)
    case atStart=>exact⟨0,zQ _,rfl,rfl,rfl,a8⟩
    case round=>
     clear a8 bZ;obtain⟨p,hp,rfl,rfl,aQ,a2⟩:=hrel;subst aQ
     by_cases hpn:p<s.ps.length
     .have ah:=hP.o.look hpn (by omega);have p0:(0:Int)<=(p:Int):=by omega
      have p1:(p:Int)<(s.ps.length:Int):=by omega
      by_cases ab:p∈left
      .rw [zD ab,Cp ab]at ah;obtain⟨af,aP⟩:=JC (Sp (au.o p (ar.o p ab).2) hP.o.kp fun b e=>ae.o.2.2.2 p b (ar.o p ab).2 e);rw[af]at ah;have cJ:=zh hpn
       have bU:Hid ((CL s.ps.length E p).length<=s.ps.length):=by
        unfold Hid CL;have h:=zr (fun q=>decide (Mut E p q)) (List.range s.ps.length)
        rwa [yZ]at h
       have bT:Hid (∀q,q∈CL s.ps.length E p->q<s.ps.length/\Mut E p q):=fun q hq=>CF.1 hq;have bW:Hid ((∀q,q∈CL s.ps.length E p->∀h,(h,q)∈E->fst E h∈left->fst E h=p)->Fy E left p):=fun h=>(KQ aa.o).2 h;have b3:Hid (∀h q,q∈CL s.ps.length E p->(h,q)∈E->fst E h∈left->fst E h≠p->¬Fy E left p):=fun h q hq he hl cA ci=>cA ((KQ aa.o).1 ci q hq h he hl);obtain⟨cmp,aK⟩:∃x,x=CL s.ps.length E p:=⟨_,rfl⟩;rw[<-aK]at ah af aP bU bT bW b3;obtain⟨Ap2,aE⟩:∃x,x=slA (v p):=⟨_,rfl⟩;obtain⟨bd,a7⟩:∃x,x=slC (v p):=⟨_,rfl⟩;rw[<-aE,<-a7]at ah af;rw[<-aE]at aP;have bR:Hid (∀q,q∈cmp.take 0->∀h,(h,q)∈E->fst E h∈left->fst E h=p):=fun q hq=>by simp at hq
       replace af:=zh af;replace aP:=zh aP;replace aK:=zh aK;clear aE a7;go_wp2
       go_loopw [96] (fun ix wz=>∃j:Nat,j<=cmp.length/\ix=.int .i64 (j:Int)/\wz=wr/\Hid (∀q,q∈cmp.take j->∀h,(h,q)∈E->fst E h∈left->fst E h=p)) (fun ix _=>cmp.length-(intOf ix).toNat)
       case atStart=>exact⟨0,zQ _,rfl,rfl,bR⟩
       case round=>
        clear bR ah;obtain⟨j,hj,rfl,aQ,aX⟩:=hrel;subst aQ
        by_cases hjl:j<cmp.length
        .obtain ⟨gp,op,rfl,cL,aZ⟩:=aP.o (by simpa using yA (zQ _) hjl);have e1:=aZ j (by simpa using hjl);simp only[zz]at e1;have bz:=zh (zN hjl);have a5:cmp.take (j+1)=cmp.take j++[cmp[j]]:=zO hjl;obtain⟨q,b6⟩:∃x,x=cmp[j]:=⟨_,rfl⟩;rw[<-b6]at e1 bz a5;have ak:q<s.ps.length:=(bT.o q bz.o).1;have aj:=bK.o.kp hP.o.kp ae.o.1 ae.o.2.1;have d1:=aj.hd q ak;have d2:=aj.lt;obtain⟨A3,c3,bC,d⟩:=SG (bK.o.rows q ak);rw[bC]at d1
         have bs:Hid (∀i (hi:i<(T q).length),∃gg,A3=some ⟨gg,0,none⟩/\wr.cell? ⟨gg,i,none⟩=some (.int .i64 ((T q)[i]:Int))/\gg<wr.heap.size):=fun i hi=>by
          obtain⟨gg,hA,h1,h2⟩:=d i hi;exact⟨gg,hA,(zT (a:=⟨gg,i,none⟩) (hP.o.kp.block gg h1 (ae.o.2.1 q gg ak (by rw[bC,hA];rfl)))).trans h2,zJ h1 hP.o.kp.size⟩
         have j0:(0:Int)<=(j:Int):=by omega
         have j1:(j:Int)<(cmp.length:Int):=by omega
         have j2:(0:Int)<=(q:Int):=by omega
         have j3:(q:Int)<(s.ps.length:Int):=by omega
         have bQ:Hid (∀h,h∈T q<->(h,q)∈E):=fun h=>by rw[bP.o q h ak,EL]
         have cD:=bO.o q;have aD:Hid (∀h,h∈(T q).take 0->fst E h∈left->fst E h=p):=fun h hh=>by simp at hh
         replace a5:=zh a5;clear aj d bC b6 aZ;go_wp2
         go_loopw [105] (fun ix wz=>∃i:Nat,i<=(T q).length/\ix=.int .i64 (i:Int)/\wz=wr/\Hid (∀h,h∈(T q).take i->fst E h∈left->fst E h=p)) (fun ix _=>(T q).length-(intOf ix).toNat)
         case atStart=>exact⟨0,zQ _,rfl,rfl,aD⟩
         case round=>
          clear aD;obtain⟨i,hi,rfl,aQ,bF⟩:=hrel;subst aQ
          by_cases hil:i<(T q).length
          .obtain ⟨gg,rfl,aZ,cF⟩:=bs.o i hil;have bt:=(bQ.o _).1 (zN hil);have aO:(T q).take (i+1)=(T q).take i++[(T q)[i]]:=zO hil;obtain⟨h,bY⟩:∃x,x=(T q)[i]:=⟨_,rfl⟩;rw[<-bY]at aZ bt aO;have a0:h<s.ps.length:=(aa.o _ bt).1;have aN:=hP.o.kp;have f1:=(a3.o.of_block aN.size (aN.block (S+1) a3.o.lt ae.o.2.2.1)).cell h a0;have f2:=(a3.o.of_block aN.size (aN.block (S+1) a3.o.lt ae.o.2.2.1)).lt;rw[hF.o h a0]at f1;have an:=hP.o.look (Gq (E:=E) a0) (by omega)
           have aJ:fst E h∈left->fst E h=p\/¬Fy E left p:=fun hl=>by
            by_cases e:fst E h=p
            .exact .inl e
            exact .inr (b3.o h q bz.o bt hl e)
           obtain⟨fh,aY⟩:∃x,x=fst E h:=⟨_,rfl⟩
           have aR:Hid ((fh∈left->fh=p)->∀x,x∈(T q).take (i+1)->fst E x∈left->fst E x=p):=fun hx x hm hl=>by
            rw[aO]at hm
            rcases List.mem_append.1 hm with hm|hm
            .exact bF.o x hm hl
            rw[List.mem_singleton.1 hm,<-aY]at hl ⊢;exact hx hl
           have cK:fh<s.ps.length:=by rw[aY];exact Gq a0
           rw[<-aY]at f1 an aJ;have i0':(0:Int)<=(i:Int):=by omega
           have i1':(i:Int)<((T q).length:Int):=by omega
           have i2':(0:Int)<=(h:Int):=by omega
           have i3':(h:Int)<(s.ps.length:Int):=by omega
           clear bY aY aO aN bs
           by_cases hfl:fh∈left
           .rw [zD hfl,Cp hfl]at an
            by_cases hfe:fh=p
            .have m1:((fh:Int) != (p:Int))=false:=by rw[xF];omega
             have aw:=zh (aR.o fun _=>hfe);subst hfe;clear aJ aR;go_wp2;exact⟨⟨i+1,by omega,by go_num,trivial,aw⟩,by simp only[intOf];omega⟩
            have m1:((fh:Int) != (p:Int))=true:=by rw[zy];omega
            have aM:Hid (∀x,x<p+1->x∈left->¬Fy E left x):=fun x hx a6=>by
             by_cases e:x=p
             .subst e;exact(aJ hfl).resolve_left hfe
             exact a2.o x (by omega) a6
            replace hfe:=zh hfe;clear aJ aR;go_wp2;exact⟨⟨p+1,by omega,rfl,by go_num,trivial,aM⟩,by simp only[intOf];omega⟩
           rw[zC hfl,BR hfl]at an;have aw:=zh (aR.o fun c=>absurd c hfl);clear aJ aR;go_wp2;exact⟨⟨i+1,by omega,by go_num,trivial,aw⟩,by simp only[intOf];omega⟩
          obtain rfl:i=(T q).length:=by omega
          have bS:Hid (∀q,q∈cmp.take (j+1)->∀h,(h,q)∈E->fst E h∈left->fst E h=p):=fun x hx h he hl=>by
           rw[a5.o]at hx
           rcases List.mem_append.1 hx with hx|hx
           .exact aX.o x hx h he hl
           rw[List.mem_singleton.1 hx]at he;exact bF.o h (by rw[zn];exact(bQ.o h).2 he) hl
          have cE:=bU.o;clear aX bF bs;go_wp2;exact⟨⟨j+1,by omega,by go_num,trivial,bS⟩,by simp only[intOf];omega⟩
        obtain rfl:j=cmp.length:=by omega
        have aF:=bW.o fun q hq=>aX.o q (by rw[zn];exact hq)
        have b5:Fj E left=some p:=TF hP.o.st.ok ab aF fun x hx hf=>by
         by_cases c:p<=x
         .exact c
         exact absurd hf (a2.o x (by omega) hx)
        obtain⟨d,a4,av⟩:=hP.o.step b5 hpn (by omega) ck;have bc:=af.o;rw[bc]at d a4 av;have had:Hid (∀j u,[(Value.slice Ap2 cmp.length bd)][j]? = some u->(wr.alloc (.cells #[.slice Ap2 cmp.length bd] 37)).cell? (Addr.add ⟨wr.heap.size,0,none⟩ j)=some u):=BH wr _ _
        have b0:Hid (pre.length<=100):=by
         have h1:=Cv s.ps.length pre (hP.o.pre_nodup aa.o) fun x hx=>(hP.o.st.had x hx).1;unfold Hid;omega
        have ct:Hid ((left.erase p).length<gk):=by
         rw[hm,yh ab];have:=xw ab;unfold Hid;omega
        have a9:Hid ((pre++[p]).length=pre.length+1):=by unfold Hid;simp
        obtain⟨g0,br,bX⟩:=Option.map_eq_some_iff.1 Sj;simp only[Prod.mk.injEq]at bX;obtain⟨be,bf,bg⟩:=bX;replace d:=zh d;replace a4:=zh a4;replace av:=zh av;replace br:=zh br;replace be:=zh be;replace bf:=zh bf;replace bg:=zh bg;clear aX aF b5 bc hP
        go_wp2_with (at_builtin;refine wpList_append_new _ rfl _ _ 44 rfl w7.heap.size 37 g0 (.slice none 0 0) 1 24 underlying44 br.o be.o bf.o bg.o rfl (by decide) (.slice A pre.length c) pre.length _ rfl d.o ⟨wr.heap.size,0,none⟩ 1 1 [.slice Ap2 cmp.length bd] rfl rfl had.o (AM _ rfl) (by decide) (by have:=b0.o;unfold maxLen;omega) (by have:=b0.o;omega) a4.o ?_;intro bG bH aC aL a1;obtain⟨W4,bA,ap⟩:=av.o bG bH aC aL;obtain⟨A9,c9,rfl⟩:=CK aC;replace ap:=zh ap;clear aC aL a1)
        rw[Exit.noGoto_normal];go_wp2
        go_roundg (left.erase p).length
        case measure=>exact ct.o
        case rel=>exact⟨A9,c9,pre++[p],left.erase p,rfl,by rw[a9.o],by have h:=ap.o;rwa [<-a9.o]at h⟩
      rw[zC ab,BR ab]at ah
      have aM:Hid (∀x,x<p+1->x∈left->¬Fy E left x):=fun x hx a6=>by
       by_cases e:x=p
       .subst e;exact absurd a6 ab
       exact a2.o x (by omega) a6
      clear ab;go_wp2;exact⟨⟨p+1,by omega,rfl,by go_num,trivial,aM⟩,by simp only[intOf];omega⟩
     exfalso;obtain⟨x,hx,hf⟩:=hP.o.st.ok.free hl0;exact a2.o x (by have:=(ar.o x hx).1;omega) hx hf
end Ci
end
section
open Go.RowKit Go.Shelf
namespace Sh
open Nt Ci
theorem PO{S:Rat->Bool}{L:List Lp}{u:List Nat}{val:Nat->Rat}{p:Nat}(h:p∉u):Cu S L u val p=val p:=by
 unfold Cu
 cases AA S u.length u.length (Bi L u val) with
 |ok M=>exact zC h
 |error _=>rfl
theorem Df{l:List Nat}{i x:Nat}(h:i<l.length):x∈l.take (i+1)<->x∈l.take i\/x=l[i]:=by
 rw[zO h,yQ,ym]
theorem JG{S:Rat->Bool}{L:List Lp}{u:List Nat}:∀(us:List (List Nat)) (val:Nat->Rat),Ni S L (us++[u]) val=Cu S L u (Ni S L us val)
 | [],_=>rfl
 |_::us,_=>JG us _
theorem Ready.take{L:List Lp}{F:List Nat}:∀{us:List (List Nat)} {done:List Nat} (k:Nat),Ready L F done us->Ready L F done (us.take k)
 | [],_,k,_=>by rw[List.take_nil];trivial
 |_::_,_,0,_=>trivial
 |_::us,_,k+1,h=>⟨h.1,Ready.take k h.2⟩
theorem Ready.at{L:List Lp}{F:List Nat}:∀{us:List (List Nat)} {done:List Nat} (k:Nat) (hk:k<us.length),Ready L F done us->Nxt L F (done++(us.take k).flatten) us[k]
 |u::us,done,0,_,h=>by simpa using h.1
 |u::us,done,k+1,hk,h=>by
  have:=Ready.at (done:=done++u) k (by simpa using hk) h.2
  simpa [xT] using this
noncomputable def D7(L:List Lp)(F:List Nat)(us:List (List Nat))(k:Nat):Nat->Rat:=Ni SQ L (us.take k) fun p=>if p∈F then 1 else 0
theorem N7{L:List Lp}{F:List Nat}{us:List (List Nat)}{k:Nat}(hk:k<us.length):D7 L F us (k+1)=Cu SQ L us[k] (D7 L F us k):=by
 unfold D7;rw[zO hk,JG]
theorem Fg{us:List (List Nat)}{k:Nat}(hk:k<us.length):(us.take k).flatten.length+us[k].length<=us.flatten.length:=by
 have h:=congrArg (fun l=>(List.flatten l).length) (yo (k+1) us);simp only[xQ,zV,zO hk,wH,List.flatten_nil,xN]at h;omega
theorem PP{n:Nat}{L:List Lp}{F:List Nat}{us:List (List Nat)}(hL:Caps n L)(hr:Ready L F [] us)(aa:us.flatten.length<=16)(k:Nat):
 ∃D,D<=6000^16/\Inv L F (us.take k).flatten (D7 L F us k) D:=by
 have d:(us.take k).flatten.length<=16:=by
  have h:=congrArg (fun l=>(List.flatten l).length) (yo k us);simp only[xQ,zV]at h;omega
 obtain⟨D,hD⟩:=Inv.run hL Kv (us.take k) [] _ 1 (Inv.start L F) (hr.take k) (by simpa using d);rw[yT]at hD;exact⟨D,zS hD.dle (zi (by omega) d),hD⟩
theorem Inv.vals{L:List Lp}{F done:List Nat}{val:Nat->Rat}{D:Nat}(h:Inv L F done val D)(hD:D<=6000^16):Vals val D:=⟨h.rng,h.dp,hD,h.whole⟩
theorem N8{L:List Lp}{F:List Nat}{us:List (List Nat)}(hr:Ready L F [] us){k:Nat}(hk:k<us.length):Nxt L F (us.take k).flatten us[k]:=by
 have:=hr.at k hk
 rwa [yT]at this
noncomputable def Iz(L:List Lp)(u:List Nat)(val:Nat->Rat)(i:Nat):Nat->Rat:=fun p=>if p∈u.take i then Cu SQ L u val p else val p
theorem SH{L:List Lp}{u:List Nat}{val:Nat->Rat}:Iz L u val 0=val:=by funext p;unfold Iz;simp
theorem SI{L:List Lp}{u:List Nat}{val:Nat->Rat}{i:Nat}(h:i<u.length)(x:Nat):(if x=u[i] then Cu SQ L u val u[i] else Iz L u val i x)=Iz L u val (i+1) x:=by
 unfold Iz
 by_cases e:x=u[i]
 .rw[zD e,zD ((Df h).2 (.inr e)),e]
 rw[zC e]
 by_cases e2:x∈u.take i
 .rw[zD e2,zD ((Df h).2 (.inl e2))]
 rw[zC e2,zC fun c=>((Df h).1 c).elim e2 e]
theorem UD{L:List Lp}{u:List Nat}{val:Nat->Rat}:Iz L u val u.length=Cu SQ L u val:=by
 funext p
 unfold Iz;rw[zn]
 by_cases e:p∈u
 .rw[zD e]
 rw[zC e,PO e]
noncomputable def Hh(F:List Nat)(k:Nat):Nat->Rat:=fun p=>if p∈F.take k then 1 else 0
theorem PQ{F:List Nat}:Hh F 0=fun _=>0:=by funext p;unfold Hh;simp
theorem PR{F:List Nat}{k p:Nat}(h:F[k]? = some p)(x:Nat):(if x=p then (1:Rat) else Hh F k x)=Hh F (k+1) x:=by
 obtain⟨hk,rfl⟩:=List.getElem?_eq_some_iff.1 h;unfold Hh
 by_cases e:x=F[k]
 .rw[zD e,zD ((Df hk).2 (.inr e))]
 rw[zC e]
 by_cases e2:x∈F.take k
 .rw[zD e2,zD ((Df hk).2 (.inl e2))]
 rw[zC e2,zC fun c=>((Df hk).1 c).elim e2 e]
theorem SJ{L:List Lp}{F:List Nat}{us:List (List Nat)}:Hh F F.length=D7 L F us 0:=by
 funext p;unfold Hh D7;rw[zn,List.take_zero];rfl
theorem PS{s:SR}{l:List (Option Addr×Nat×List Int)}(h:baR l=Dv s){k:Nat}(hk:k<l.length):∃hc:k<(Ar s.ps.length (Ag s)).length,l[k].2.2=((Ar s.ps.length (Ag s))[k]).map fun(q:Nat)=>(q:Int):=by
 have hl:=congrArg List.length h;simp only[baR,Dv,zW]at hl;refine⟨by omega,?_⟩;have h1:(baR l)[k]'(by simpa [baR] using hk)=(Dv s)[k]'(by simp[Dv];omega):=by simp only[h]
 simpa [baR,Dv] using h1
noncomputable def CO(n:Nat)(E:List (Nat×Nat))(F:List Nat)(t:Nat):List (List Nat):=((Ar n E).take t).map (unk E F)
noncomputable def GC(n:Nat)(E:List (Nat×Nat))(F:List Nat)(t:Nat):List (List Nat):=(CO n E F t).filter fun u=>decide (u≠[])
section
variable {n:Nat} {E:List (Nat×Nat)} {F:List Nat} {t:Nat}
theorem Fh(h:t<(Ar n E).length):CO n E F (t+1)=CO n E F t++[unk E F (Ar n E)[t]]:=by
 unfold CO;rw[zO h,zw,List.map_singleton]
theorem EN:CO n E F (Ar n E).length=BQ n E F:=by unfold CO BQ;rw[zn]
theorem SK:GC n E F (Ar n E).length=GX n E F:=by unfold GC GX;rw[EN]
theorem SL(h:t<(Ar n E).length)(h0:unk E F (Ar n E)[t]=[]):GC n E F (t+1)=GC n E F t:=by
 unfold GC;rw[Fh h,yL,h0];simp
theorem PT(h:t<(Ar n E).length)(h0:unk E F (Ar n E)[t]≠[]):GC n E F (t+1)=GC n E F t++[unk E F (Ar n E)[t]]:=by
 unfold GC;rw[Fh h,yL];simp[h0]
theorem JH:(CO n E F t).flatten.length<=(BQ n E F).flatten.length:=by
 have e:CO n E F t=(BQ n E F).take t:=by unfold CO BQ;rw[List.map_take]
 rw[e];have h:=congrArg (fun l=>(List.flatten l).length) (yo t (BQ n E F));simp only[xQ,zV]at h;omega
theorem N9(h:t<(Ar n E).length):(CO n E F (t+1)).flatten.length=(CO n E F t).flatten.length+(unk E F (Ar n E)[t]).length:=by
 rw[Fh h,xQ,zV];simp
theorem LK:(GC n E F t).length<=t:=by
 unfold GC CO;refine zS (zr _ _) ?_;rw[zW,yt];omega
theorem SM(h:t<(Ar n E).length)(h8:8<(unk E F (Ar n E)[t]).length):AX n E F=true:=by
 unfold AX;rw[Bool.or_eq_true,List.any_eq_true];refine .inl ⟨_,?_,zG h8⟩;unfold BQ;exact List.mem_map.2 ⟨_,zN h,rfl⟩
theorem SN(h:16<(CO n E F (Ar n E).length).flatten.length):AX n E F=true:=by
 unfold AX;rw[EN]at h;rw[zG h,Bool.or_true]
theorem UE(h:(CO n E F (Ar n E).length).flatten.length<=16)(h8:∀u,u∈CO n E F (Ar n E).length->u.length<=8):AX n E F=false:=by
 unfold AX;rw[EN]at h h8;rw[zH (by omega),Bool.or_false];refine Bool.eq_false_iff.2 fun c=>?_;obtain⟨u,hu,h9⟩:=List.any_eq_true.1 c;have:=zL h9;have:=h8 u hu;omega
theorem SO{c:List Nat}{i:Nat}(h:i<c.length):unk E F (c.take (i+1))=unk E F (c.take i)++if 0<rk E F c[i] then [c[i]] else []:=by
 unfold unk;rw[zO h,yL]
 congr 1
 by_cases d:0<rk E F c[i]
 .simp[d]
 simp[d]
theorem PU{k i:Nat}(hE:InN n E)(hk:k<(Ar n E).length)(hi:i<((Ar n E)[k]).length):((Ar n E)[k])[i]<n/\at' n E ((Ar n E)[k])[i]=k:=by
 have hm:=zN hi
 have d:∀q,q∈(Ar n E)[k]->q<n:=by
  rw[Fdq];exact fun q hq=>(CF.1 hq).1
 have h1:((Ar n E)[k])[i]<n:=d _ hm;exact⟨h1,((G7 hE h1 hk).1 hm).symm⟩
theorem I0(hE:InN n E){t:Nat}(h:t<(Ar n E).length):∀p,p∈(Ar n E)[t]->p<n:=fun p hp=>by
 obtain⟨i,hi,rfl⟩:=zg hp;exact(PU hE h hi).1
theorem Ox{c:List Nat}:(unk E F c).length<=c.length:=zr _ _
theorem PV(hE:InN n E){u:List Nat}(h:u∈GX n E F):(∀p,p∈u->p<n)/\u∈CO n E F (Ar n E).length:=by
 have h1:=(List.mem_filter.1 h).1;refine⟨fun p hp=>?_,by rw[EN];exact h1⟩;obtain⟨c,hc,rfl⟩:=List.mem_map.1 h1;obtain⟨t,ht,rfl⟩:=zg hc;exact I0 hE ht p (List.mem_filter.1 hp).1
theorem UF{E:List Ent}(h:(E.map Ent.x).Nodup){k:Nat}(hk:k<E.length):E[k].x∉(E.take k).map Ent.x:=fun hm=>by
 obtain⟨e,he,hx⟩:=List.mem_map.1 hm;obtain⟨j,hj,rfl⟩:=zg he;rw[yt]at hj;rw[wV]at hx;have:=List.pairwise_iff_getElem.1 h j k (by rw[zW];omega) (by rw[zW];omega) (by omega);rw[zz,zz]at this;exact this hx
theorem LL{L:List Lp}(hL:Caps n L):Ready L F [] (GX n (Ai L) F):=(G8 hL.inN).drop_nil
end
end Sh
end
section
open Go.RowKit Go.Shelf
namespace Sh
open Nt Ci
theorem K2(A:Option Addr)(ca:Nat)(n:Int)(l:List Int)(w:World)(hA:InInt w A l)(hl:l.length<=140737488355328):
 Calls prog 34 #[.slice A l.length ca,.int .i64 n] w fun e w'=>e=.returned (.bool (AZ n l))/\w'=w:=by
 have ag:=zh (fun(k:Nat) (h:k<l.length) (hb:¬Du n l k h)=>LH h hb);have af:=zh (LI (n:=n) (l:=l));replace hA:=zh hA;go_enter func34,ntmps34;go_wp2
 go_loopw [9] (fun i wr=>wr=w/\∃k:Nat,k<=l.length/\i=.int .i64 (k:Int)/\Hid (∀j (h:j<l.length),j<k->Du n l j h)) (fun i _=>l.length-(intOf i).toNat)
 case atStart=>exact⟨rfl,0,zQ _,rfl,fun j _ h=>absurd h (yB _)⟩
 case round=>
  obtain⟨rfl,k,hk,rfl,hI⟩:=hrel;obtain⟨wq,rfl⟩:∃z,z=wr:=⟨_,rfl⟩
  by_cases hlt:k<l.length
  .obtain ⟨b1,o1,rfl,ai,ad⟩:=hA.o (by omega);have e1:wq.cell? ⟨b1,o1+k,none⟩=some (.int .i64 l[k]):=ad k hlt;have e0:Hid (0<k->wq.cell? ⟨b1,o1+(k-1),none⟩=some (.int .i64 (l[k-1]'(by omega)))):=fun h=>ad (k-1) (by omega);have ab:=zh (ag.o k hlt)
   have ae:Hid (Du n l k hlt->∀j (h:j<l.length),j<k+1->Du n l j h):=fun h j h1 h3=>by
    by_cases e:j=k
    .subst e;exact h
    exact hI.o j h1 (by omega)
   have d:Hid (Du n l k hlt<->(0<=l[k]/\l[k]<n)/\(0<k->l[k-1]'(by omega)<l[k])):=wB;obtain⟨x,hx⟩:∃x,x=l[k]:=⟨_,rfl⟩;rw[<-hx]at e1 d;have j0:(0:Int)<=(k:Int):=by omega
   have j1:(k:Int)<(l.length:Int):=by omega
   clear ad hI hx;have ah:x<0\/(0<=x/\n<=x)\/(0<=x/\x<n):=by omega
   rcases ah with h1|⟨h1,h2⟩|⟨h1,h2⟩
   .have hG:=zh (ab.o fun h=>by have:=(d.o.1 h).1.1;omega);have m1:decide (x<0)=true:=zG h1;go_wp2;go_ret;exact⟨Ad hG.o.symm,rfl⟩
   .have hG:=zh (ab.o fun h=>by have:=(d.o.1 h).1.2;omega);have m1:decide (x<0)=false:=zH (by omega);have m2:decide (n<=x)=true:=zG h2;go_wp2;go_ret;exact⟨Ad hG.o.symm,rfl⟩
   have m1:decide (x<0)=false:=zH (by omega);have m2:decide (n<=x)=false:=zH (by omega)
   by_cases hk0:k=0
   .have m3:decide (0<(k:Int))=false:=zH (by omega);have m4:decide (0<k)=false:=zH (by omega);have aa:=zh (ae.o (d.o.2 ⟨⟨h1,h2⟩,fun h=>by omega⟩));replace hk0:=zh hk0;go_wp2;exact⟨⟨(by first|rfl|trivial),k+1,by omega,by go_num,aa⟩,by simp only[intOf];omega⟩
   have m3:decide (0<(k:Int))=true:=zG (by omega);have m4:decide (0<k)=true:=zG (by omega);have e2:=e0.o (by omega);obtain⟨y,hy⟩:∃y,y=l[k-1]'(by omega):=⟨_,rfl⟩;rw[<-hy]at e2;have j2:(0:Int)<=(k:Int)-1:=by omega
   have j3:(k:Int)-1<(l.length:Int):=by omega
   have j5:((k:Int)-1).toNat=k-1:=by omega
   by_cases hxy:y<x
   .have m5:decide (x<=y)=false:=zH (by omega);have aa:=zh (ae.o (d.o.2 ⟨⟨h1,h2⟩,fun _=>by rw[<-hy];exact hxy⟩));replace hy:=zh hy;go_wp2;exact⟨⟨(by first|rfl|trivial),k+1,by omega,by go_num,aa⟩,by simp only[intOf];omega⟩
   have m5:decide (x<=y)=true:=zG (by omega);have hG:=zh (ab.o fun h=>by have h3:=(d.o.1 h).2 (by omega);rw[<-hy]at h3;omega);replace hy:=zh hy;go_wp2;go_ret;exact⟨Ad hG.o.symm,rfl⟩
  obtain rfl:k=l.length:=by omega
  have hG:=zh (af.o fun j h=>hI.o j h h);clear hI;go_wp2;go_ret;exact⟨Ad hG.o.symm,rfl⟩
end Sh
end
end Go.Proofs.YtefmpngjjmddjaaGreatDoor

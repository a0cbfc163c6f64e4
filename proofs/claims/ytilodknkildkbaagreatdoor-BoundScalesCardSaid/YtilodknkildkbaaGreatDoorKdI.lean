/- Texts that the proof needs: CirP, CirParts, ShaEffQ, ShaProper, ShaEff, ShaHeadP, ShaLaw3, BndHeadP, BndSame, BndAB, BndHead, BndHeadC. -/
import Derived.WalkMore
import Derived.Test.YtilodknkildkbaaGreatDoorKdA
import Derived.Test.YtilodknkildkbaaGreatDoorKdB
import Derived.Test.YtilodknkildkbaaGreatDoorKdC
import Derived.Test.YtilodknkildkbaaGreatDoorKdD
import Derived.Test.YtilodknkildkbaaGreatDoorKdE
import Derived.Test.YtilodknkildkbaaGreatDoorKdF
import Derived.Test.YtilodknkildkbaaGreatDoorKdG
import Derived.Test.YtilodknkildkbaaGreatDoorKdH
set_option maxHeartbeats 64000000
set_option maxRecDepth 100000
namespace Go.Proofs.YtilodknkildkbaaGreatDoor
section
open Go.RowKit Go.Shelf
namespace Ci
open Nt
open Classical
structure P1 (E:List (Nat×Nat)) (n:Nat) (w0:World) (S p q:Nat) (v:Nat->Value) (F:Nat->Int) (wr:World):Prop where
 kp:Kp [S,S+1,S+1+1] w0 wr
 lm:LM wr w0.heap.size S n (cQ E p q) v (lsQ E n p q)
 pl:∃c f,MapK Tryz.prog 3 κi wr (S+1+1) c f/\c<=1000*p+q/\∀x:Nat,x<n->f (x:Int)=if PL E p q x then some (.bool true) else none
 ro:RoI wr (S+1) n F
 fs:∀x,x<n->PL E p q x->F x=(fst E x:Int)
section
variable {E:List (Nat×Nat)} {n p q S:Nat} {w0 wr w':World} {v:Nat->Value} {F:Nat->Int}
theorem LM.congr {w:World} {B mb c c':Nat} {ls ls':Nat->List Nat} (h:LM w B mb n c v ls) (e:∀x,ls x=ls' x) (ec:c=c'):LM w B mb n c' v ls':=by
 obtain rfl:ls=ls':=funext e;subst ec;exact h
theorem P1.below (h:P1 E n w0 S p q v F wr) (hb:Below wr.heap.size wr w'):P1 E n w0 S p q v F w':=by
 obtain⟨c,f,h1,h2⟩:=h.pl;exact⟨h.kp.below hb,h.lm.below hb,⟨c,f,h1.below hb,h2⟩,h.ro.below hb,h.fs⟩
theorem P1.had (h:P1 E n w0 S p 0 v F wr) (hp:fst E p≠p):P1 E n w0 S (p+1) 0 v F wr:=by
 obtain⟨c,f,h1,h2,h3⟩:=h.pl;refine⟨h.kp,h.lm.congr (fun x=>?_) ?_,⟨c,f,h1,by omega,fun x hx=>?_⟩,h.ro,fun x hx hP=>h.fs x hx ((MU hp).1 hP)⟩
 · rw[Ej,Ej,Uf hp]
 · rw[Gb,Gb,NV,if_neg hp]
 · rw[h3 x hx]
   by_cases e:PL E p 0 x
   · rw[if_pos e,if_pos ((MU hp).2 e)]
   · rw[if_neg e,if_neg fun c=>e ((MU hp).1 c)]
theorem P1.next (h:P1 E n w0 S p n v F wr) (hp:fst E p=p) (a:p<n) (hn:n<=1000):P1 E n w0 S (p+1) 0 v F wr:=by
 obtain⟨c,f,h1,h2,h3⟩:=h.pl;refine⟨h.kp,h.lm.congr (fun x=>?_) ?_,⟨c,f,h1,by omega,fun x hx=>?_⟩,h.ro,fun x hx hP=>h.fs x hx ((JY hp hx).1 hP)⟩
 · rw[Ej,Sm hp]
 · rw[Gb,Ug hp a]
 · rw[h3 x hx]
   by_cases e:PL E p n x
   · rw[if_pos e,if_pos ((JY hp hx).2 e)]
   · rw[if_neg e,if_neg fun c=>e ((JY hp hx).1 c)]
theorem P1.skip (h:P1 E n w0 S p q v F wr) (hm:¬Mut E p q):P1 E n w0 S p (q+1) v F wr:=by
 obtain⟨c,f,h1,h2,h3⟩:=h.pl;refine⟨h.kp,h.lm.congr (fun x=>(Si hm).symm) (Ud hm).symm,⟨c,f,h1,by omega,fun x hx=>?_⟩,h.ro,fun x hx hP=>h.fs x hx ((JX hm).1 hP)⟩;rw[h3 x hx]
 by_cases e:PL E p q x
 · rw[if_pos e,if_pos ((JX hm).2 e)]
 · rw[if_neg e,if_neg fun c=>e ((JX hm).1 c)]
theorem P1.look (h:P1 E n w0 S p 0 v F wr) (d:p<n) (hn:n<=1000):(Instr.lookup 106 (.map (some (S+1+1))) (.int .i64 (p:Int)) false).run Tryz.prog wr=.ok (.bool (bV (fst E p≠p))) wr:=by
 obtain⟨c,f,h1,_,h3⟩:=h.pl;have:=h1.look F3 Tryz.underlying106 (NN wr) (E5 Tryz.underlying3 (a:=(p:Int)) (by omega) (by omega));rw[this,h3 p d]
 by_cases e:fst E p≠p
 · rw[if_pos (Sk.2 e),C3 e];rfl
 · rw[if_neg fun c=>e (Sk.1 c),BX e];rfl
theorem ReachM.look {mb:Nat} {w:World} (h:ReachM w n mb E p) (hq:q<n) (hn:n<=1000):(Instr.lookup 106 (.map (some mb)) (.int .i64 (q:Int)) false).run Tryz.prog w=.ok (.bool (bV (Reach E p q))) w:=by
 obtain⟨c,f,h1,h3⟩:=h;have:=h1.look F3 Tryz.underlying106 (NN w) (E5 Tryz.underlying3 (a:=(q:Int)) (by omega) (by omega));rw[this,h3 q hq]
 by_cases e:Reach E p q
 · rw[if_pos e,C3 e];rfl
 · rw[if_neg e,BX e];rfl
theorem ReachM.below {mb:Nat} {w:World} (h:ReachM w n mb E p) (hb:Below w.heap.size w w'):ReachM w' n mb E p:=by
 obtain⟨c,f,h1,h3⟩:=h;exact⟨c,f,h1.below hb,h3⟩
theorem ReachM.kp {mb:Nat} {xs:List Nat} {w:World} (h:ReachM w n mb E p) (hk:Kp xs w w') (hm:mb∉xs):ReachM w' n mb E p:=by
 obtain⟨c,f,h1,h3⟩:=h;exact⟨c,f,h1.kp hk hm,h3⟩
theorem P1.start (E:List (Nat×Nat)) (n:Nat) (wS:World) (t:TypeId) :
 P1 E n (((wS.alloc (.map #[] 0)).alloc (.cells (madeCells #[.int .i64 0] n) t)).alloc (.map #[] 0)) wS.heap.size 0 0 (fun _=>.slice none 0 0) (fun _=>0) (((wS.alloc (.map #[] 0)).alloc (.cells (madeCells #[.int .i64 0] n) t)).alloc (.map #[] 0)):=by
 have s1:(wS.alloc (.map #[] 0)).heap.size=wS.heap.size+1:=by simp
 have s2:((wS.alloc (.map #[] 0)).alloc (.cells (madeCells #[.int .i64 0] n) t)).heap.size=wS.heap.size+1+1:=by simp
 have hR:=(RoI.made (wS.alloc (.map #[] 0)) n t).alloc (.map #[] 0);rw[s1]at hR;have hM:=MapK.made ((wS.alloc (.map #[] 0)).alloc (.cells (madeCells #[.int .i64 0] n) t)) Tryz.prog 3 κi;rw[s2]at hM;refine⟨Kp.refl _ _,(((LM.made wS _ n).alloc _).alloc _).congr (fun x=>?_) ?_,⟨0,_,hM,Nat.zero_le _,fun x _=>?_⟩,hR,fun x _ hP=>?_⟩
 · rw[Ej];unfold lsO;rw[if_neg (by omega)]
 · rw[Gb];rfl
 · rw[if_neg fun c=>by have:=E1.1 c;omega]
 · have:=E1.1 hP;omega
theorem P1.step (h:P1 E n w0 S p q v F wr) (aq:w0.heap.size=S+3) (hm:Mut E p q) (ae:p<n) (ao:q<n) (hn:n<=1000) (an:fst E p=p) :
 ∃ W1,(Instr.mapUpdate 106 (.map (some (S+1+1))) (.int .i64 (q:Int)) (.bool true)).run Tryz.prog wr=.ok () W1/\W1.heap.size=W1.heap.size/\RoI W1 (S+1) n F /\
  (∀ W2,W2=W1.setCell ⟨S+1,q,none⟩ (.int .i64 (p:Int))->(Instr.lookup 105 (.map (some S)) (.int .i64 (p:Int)) false).run Tryz.prog W2=.ok (v p) W2/\wr.heap.size<=W2.heap.size /\
    ∀ W3,W3=W2.alloc (.cells #[.int .i64 (q:Int)] 3)->W3.ownsRow w0.heap.size 3 1 (v p) (lsQ E n p q p).length (BW (lsQ E n p q p)) /\
     ∀ vb wb,wb.ownsRow w0.heap.size 3 1 vb ((lsQ E n p q p).length+1) (BW (lsQ E n p q p)++[.int .i64 (q:Int)])->W3.grownBy wb (v p).ownBlock->(vb.ownBlock=(v p).ownBlock∨vb.ownBlock=some W3.heap.size) ->
      ∃ W4,(Instr.mapUpdate 105 (.map (some S)) (.int .i64 (p:Int)) vb).run Tryz.prog wb=.ok () W4/\P1 E n w0 S p (q+1) (fun i=>if i=p then vb else v i) (Fw F q (p:Int)) W4 /\
       (∀w6,Kp [S,S+1,S+1+1] w6 wr->(∀b,(v p).ownBlock=some b->w6.heap.size<=b)->Kp [S,S+1,S+1+1] w6 W4/\∀b,vb.ownBlock=some b->w6.heap.size<=b)):=by
 obtain⟨c,f,h1,h2,h3⟩:=h.pl;obtain⟨W1,aj,ak,ad⟩:=h1.put Gn F3 Tryz.underlying106 (by unfold maxLen;omega) (E5 Tryz.underlying3 (a:=(q:Int)) (by omega) (by omega)) (.bool true);have d:∀x b,x<n->(v x).ownBlock=some b->w0.heap.size<=b:=fun x b hx e=>((h.lm.rows x hx).lt b e).1
 have hL1:LM W1 w0.heap.size S n (cQ E p q) v (lsQ E n p q):=h.lm.grown ad (by simp;omega) fun x b hx e e2=>by
  have:=d x b hx e
  cases e2;omega
 have ah:RoI W1 (S+1) n F:=h.ro.grown ad (by simp);refine⟨W1,aj,rfl,ah,?_⟩;rintro W2 rfl
 have hL2:=hL1.set (a:=⟨S+1,q,none⟩) (.int .i64 (p:Int)) (by simp) fun x hx e=>by
  have:=d x _ hx e;simp only at this;omega
 have am:=ah.set ao (p:Int);have al:=ak.set (a:=⟨S+1,q,none⟩) (by simp) (.int .i64 (p:Int));refine⟨hL2.look ae hn,by have:=ad.size;simpa using this,?_⟩;rintro W3 rfl;have hL3:=hL2.alloc (.cells #[.int .i64 (q:Int)] 3);refine⟨hL3.rows p ae,fun vb wb ho hg aa=>?_⟩;have hc:=Wf (E:=E) (p:=p) (q:=q);obtain⟨W4,ag,hL4,af⟩:=hL3.step ae hn (by unfold maxLen;omega) hg ho aa;have hS:∀b,(v p).ownBlock=some b->S+1+1<b:=fun b e=>by have:=d p b ae e;omega
 refine⟨W4,ag,⟨?_,hL4.congr (fun x=>?_) ?_,⟨if (f (q:Int)).isSome then c else c+1,OJ f (q:Int) (some (.bool true)),?_,?_,fun x hx=>?_⟩,?_,fun x hx hP=>?_⟩,fun w6 hk ai=>⟨?_,fun b e=>?_⟩⟩
 · exact((((h.kp.grown ad fun b e=>by cases e;simp).set (a:=⟨S+1,q,none⟩) _ (by simp)).alloc _).grown hg fun b e=>.inr (d p b ae e)).grown af fun b e=>by cases e;simp
 · rw[Sj hm];rfl
 · rw[Ue (n:=n) hm]
 · exact((al.alloc _).kept hg fun e=>by have:=hS _ e.symm;omega).kept af (by simp;omega)
 · split<;>omega
 · by_cases e:x=q
   · subst e;rw[Cb,if_pos ((Hj hm).2 (.inr rfl))]
   · rw[BT (fun c=>e (by omega)),h3 x hx]
     by_cases e2:PL E p q x
     · rw[if_pos e2,if_pos ((Hj hm).2 (.inl e2))]
     · rw[if_neg e2,if_neg fun c=>((Hj hm).1 c).elim e2 e]
 · exact((am.alloc _).grown hg fun e=>by have:=hS _ e;omega).grown af (by simp)
 · by_cases e:x=q
   · subst e;rw[Be,<-Fu hm,an]
   · rw[AJ e];exact h.fs x hx (((Hj hm).1 hP).elim id fun c=>absurd c e)
 · exact((((hk.grown ad fun b e=>by cases e;simp).set (a:=⟨S+1,q,none⟩) _ (by simp)).alloc _).grown hg fun b e=>.inr (ai b e)).grown af fun b e=>by cases e;simp
 · rcases aa with aa | aa
   · exact ai b (by rw[<-aa,e])
   · rw[e]at aa;have h1:=hk.size;have h2:=ad.size;simp only[Option.some.injEq,World.size_alloc,World.size_setCell]at aa;omega
end
structure P2 (E:List (Nat×Nat)) (n:Nat) (w7:World) (S:Nat) (v:Nat->Value) (pre left:List Nat) (vo:Value) (wr:World):Prop where
 st:Stage n E pre left
 kp:Kp [S] w7 wr
 mp:∃f,MapK Tryz.prog 3 κi wr S left.length f/\∀x:Nat,x<n->f (x:Int)=if x∈left then some (v x) else none
 out:wr.ownsRow w7.heap.size 26 1 vo pre.length (pre.map v)
section
variable {E:List (Nat×Nat)} {n p q S:Nat} {w0 w7 wr w':World} {v:Nat->Value} {F:Nat->Int} {pre left:List Nat} {vo:Value}
theorem P2.start (h:P1 E n w0 S n 0 v F w7) (hE:InN n E):P2 E n w7 S v [] (leasts n E) (.slice none 0 0) w7:=by
 obtain⟨f,h1,h2⟩:=h.lm.map;rw[Gb,Vu]at h1;refine⟨Stage.start hE,Kp.refl _ _,⟨f,h1,fun x hx=>?_⟩,World.ownsRow_nil _ _ _ _⟩;rw[h2 x hx,Ej,NW hx]
 by_cases e:x∈leasts n E
 · rw[if_pos e,if_pos e,if_neg (NU hx)]
 · rw[if_neg e,if_neg e,if_pos rfl]
theorem P2.pre_nodup (h:P2 E n w7 S v pre left vo wr) (hE:InN n E):pre.Nodup:=by
 have h1:=Idq hE;rw[h.st.eq]at h1;exact(List.nodup_append.1 h1).1
theorem P2.len (h:P2 E n w7 S v pre left vo wr) (ty:TypeId):(Builtin.len_ #[105] ty #[.map (some S)]).run Tryz.prog wr=.ok (.int .i64 (left.length:Int)) wr:=by
 obtain⟨f,h1,_⟩:=h.mp;exact h1.len Tryz.underlying105 ty
theorem P2.look (h:P2 E n w7 S v pre left vo wr) (hp:p<n) (hn:n<=1000):(Instr.lookup 105 (.map (some S)) (.int .i64 (p:Int)) true).run Tryz.prog wr=.ok (.tuple #[if p∈left then v p else .slice none 0 0,.bool (bV (p∈left))]) wr:=by
 obtain⟨f,h1,h2⟩:=h.mp;have:=h1.look_ok F3 Tryz.underlying105 (RM wr) (E5 Tryz.underlying3 (a:=(p:Int)) (by omega) (by omega));rw[this,h2 p hp]
 by_cases e:p∈left
 · rw[if_pos e,if_pos e,C3 e];rfl
 · rw[if_neg e,if_neg e,BX e];rfl
theorem P2.step (h:P2 E n w7 S v pre left vo wr) (hp:Fg E left=some p) (ah:p<n) (hn:n<=1000) (hS:S<w7.heap.size) :
 (wr.alloc (.cells #[v p] 26)).ownsRow w7.heap.size 26 1 vo pre.length (pre.map v)/\w7.heap.size<=(wr.alloc (.cells #[v p] 26)).heap.size /\
 ∀ vb wb,wb.ownsRow w7.heap.size 26 1 vb (pre.length+1) (pre.map v++[v p])->(wr.alloc (.cells #[v p] 26)).grownBy wb vo.ownBlock ->
  ∃W4,(Builtin.delete_ #[105,3] 0 #[.map (some S),.int .i64 (p:Int)]).run Tryz.prog wb=.ok (.tuple #[]) W4/\P2 E n w7 S v (pre++[p]) (left.erase p) vb W4:=by
 have hs:=h.kp.size;obtain⟨ad,_,_⟩:=C6 h.st.ok hp;obtain⟨f,h1,h2⟩:=h.mp;have af:∀b,vo.ownBlock=some b->w7.heap.size<=b:=fun b e=>(h.out.lt b e).1;refine⟨AR h.out ((Below.refl _ wr).alloc (Nat.le_refl _) _),by simp;omega,fun vb wb ho hg=>?_⟩;have ag:∀b,vo.ownBlock=some b->b≠S:=fun b e c=>by have:=af b e;omega
 have hM:=(h1.alloc (.cells #[v p] 26)).kept hg fun e=>ag S e.symm rfl;obtain⟨W4,ae,d,aa⟩:=hM.del Gn F3 Tryz.underlying105 (E5 Tryz.underlying3 (a:=(p:Int)) (by omega) (by omega)) 0
 have hc:(if (f (p:Int)).isSome then left.length-1 else left.length)=(left.erase p).length:=by
  rw[h2 p ah,if_pos ad,List.length_erase_of_mem ad];rfl
 rw[hc]at d;refine⟨W4,ae,h.st.step hp,?_,⟨_,d,fun x hx=>?_⟩,?_⟩
 · exact((h.kp.alloc _).grown hg fun b e=>.inr (af b e)).grown aa fun b e=>by cases e;simp
 · by_cases e:x=p
   · subst e;rw[Cb,if_neg fun c=>(h.st.ok.nodup.mem_erase_iff.1 c).1 rfl]
   · rw[BT (fun c=>e (by omega)),h2 x hx]
     by_cases e2:x∈left
     · rw[if_pos e2,if_pos ((List.mem_erase_of_ne e).2 e2)]
     · rw[if_neg e2,if_neg fun c=>e2 ((List.mem_erase_of_ne e).1 c)]
 · rw[List.length_append,List.map_append];refine ho.kept aa ?_
   cases hu:vb.ownBlock with
   | none=>exact .inl rfl
   | some b=>exact .inr fun e=>(by have:=(ho.lt b hu).1;cases e;omega)
def slA:Value->Option Addr
 | .slice a _ _=>a
 | _=>none
def slC:Value->Nat
 | .slice _ _ c=>c
 | _=>0
noncomputable def AN (E:List (Nat×Nat)) (n:Nat) (v:Nat->Value) (pre:List Nat):List (Option Addr×Nat×List Int):=pre.map fun p=>(slA (v p),slC (v p),(CW n E p).map fun(q:Nat)=>(q:Int))
theorem Px:bare (AN E n v pre)=pre.map fun p=>(CW n E p).map fun(q:Nat)=>(q:Int):=by
 unfold bare AN;rw[List.map_map];rfl
theorem Jt {W:World} {base:Nat} {e:TypeId} {u:Value} {l:List Nat} (h:W.ownsRow base e 1 u l.length (BW l)):u=.slice (slA u) l.length (slC u)/\InInt W (slA u) (l.map fun(q:Nat)=>(q:Int)):=by
 rcases Eg h with⟨rfl,rfl⟩ | ⟨g,cap,rfl,_,h1,_,h2⟩
 · exact⟨rfl,fun h=>absurd h (by simp)⟩
 · refine⟨rfl,fun _=>⟨g,0,rfl,h1,fun j hj=>?_⟩⟩;have a:j<l.length:=by simpa using hj
   rw[Nat.zero_add,h2 j a];simp
theorem So {W:World} {base base2 c:Nat} {A:Option Addr} (hn:n<=1000) (h:W.ownsRow base 26 1 (.slice A pre.length c) pre.length (pre.map v)) (hr:∀p,p∈pre->W.ownsRow base2 3 1 (v p) (CW n E p).length (BW (CW n E p))):Sn W A (AN E n v pre):=fun h0=>by
 have hl:(AN E n v pre).length=pre.length:=by simp[AN]
 rw[hl]at h0
 rcases h.2 with⟨_,h1⟩ | ⟨g,cap,cur,e,hb,hg,_⟩
 · omega
 · injection e with e1 _ _;subst e1;refine⟨g,0,rfl,(Array.getElem?_eq_some_iff.1 hg).1,fun j hj=>?_⟩;have a:j<pre.length:=by omega
   have hc:=h.cells (g:=g) (by simp[Value.ownBlock]) j (v pre[j]) (by simp[a]);rw[Addr.add_lit]at hc;have d:=Jt (hr pre[j] (List.getElem_mem a));have he:(AN E n v pre)[j]=(slA (v pre[j]),slC (v pre[j]),(CW n E pre[j]).map fun(q:Nat)=>(q:Int)):=by simp[AN]
   rw[he];refine⟨?_,d.2,?_⟩
   · rw[hc];simp only[List.length_map];rw[<-d.1]
   · simp only[List.length_map];unfold CW;have h:=List.length_filter_le (fun q=>decide (Mut E pre[j] q)) (List.range n);rw[List.length_range]at h;omega
end
end Ci
end
section
open Go.RowKit Go.Shelf
namespace Ci
open Nt
open Classical
noncomputable def DT (s:SR):List (List Int):=(As s.ps.length (Ad s)).map fun l=>l.map fun(q:Nat)=>(q:Int)
def MV (s:SR) (w:World) (e:Ending) (w':World):Prop :=
 (if At s=true then ∃A c l,e=.returned (.tuple #[.slice A l.length c,.int .i64 0])/\Sn w' A l/\bare l=DT s
   else e=.returned (.tuple #[.slice none 0 0,.int .i64 1]))/\Below w.heap.size w w'
theorem Ip (s:SR) (Ap Ac Av:Option Addr) (cp cc cv:Nat) (w:World) (hE:Env w) (hs:StIn w s Ap Ac Av) (co:s.cap.length<=300) :
 Calls Tryz.prog 52 #[.agg #[.slice Ap s.ps.length cp,.slice Ac s.cap.length cc,.slice Av s.vot.length cv]] w (MV s w):=by
 have au:Hid (Bk (w.alloc (.cells #[.slice Ap s.ps.length cp,.slice Ac s.cap.length cc,.slice Av s.vot.length cv] 25)) w.heap.size 25 (SC s Ap Ac Av cp cc cv)):=Bk.new w _ _;have an:Hid (Below w.heap.size w (w.alloc (.cells #[.slice Ap s.ps.length cp,.slice Ac s.cap.length cc,.slice Av s.vot.length cv] 25))):=(Below.refl _ w).alloc (Nat.le_refl _) _;have b5:=@run_makeMap Tryz.prog;have u0:=au.out.c0;have u1:=au.out.c1;have u2:=au.out.c2;have u9:=au.out.lt;obtain⟨wa,bG⟩:∃x,x=w.alloc (.cells #[.slice Ap s.ps.length cp,.slice Ac s.cap.length cc,.slice Av s.vot.length cv] 25):=⟨_,rfl⟩;have ks:=Ea s Ap Ac Av cp cc cv (w.alloc (.cells #[.slice Ap s.ps.length cp,.slice Ac s.cap.length cc,.slice Av s.vot.length cv] 25)) (hE.below an.out) (hs.below an.out);have ca:(w.alloc (.cells #[.slice Ap s.ps.length cp,.slice Ac s.cap.length cc,.slice Av s.vot.length cv] 25)).heap.size=w.heap.size+1:=by simp
 rw[<-bG]at au an u0 u1 u2 u9 ks ca
 cases am:At s with
 | false =>
   have bL:Hid (∀e w',e=.returned (.tuple #[.slice none 0 0,.int .i64 1])->Below w.heap.size w w'->MV s w e w'):=fun e w' h2 h3=>⟨by rw[if_neg (by rw[am];simp)];exact h2,h3⟩;rw[am]at ks;replace ks:=zh ks;replace hs:=zh hs;clear b5;subst bG;go_enter Tryz.func52,Tryz.ntmps52
   go_wp2_with fail
   refine ks.out.mono ?_;rintro e w2 ⟨rfl,hb⟩;have aB:=zh (an.out.trans (hb.mono an.out.size));clear hb;go_wp2;go_ret2;exact bL.out _ _ rfl aB.out
 | true =>
   have cG:s.ps.length<=60:=by
    have h:=am;unfold At at h;simp only[Bool.and_eq_true,decide_eq_true_eq]at h;exact h.2.1
   have cq:Hid (∀x,x∈s.cap->(0<=x.1/\x.1<s.ps.length)/\(0<=x.2.1/\x.2.1<s.ps.length)):=fun x hx=>by
    have h:=am;unfold At at h;simp only[Bool.and_eq_true]at h;obtain⟨i,hi,rfl⟩:=List.getElem_of_mem hx;exact⟨(Ep h.2.2.1 hi).1.1,(Ep h.2.2.1 hi).1.2.1⟩
   have aa:=zh (Hx am);have bp:Hid (∀e w' A c k l,e=.returned (.tuple #[.slice A k c,.int .i64 0])->k=List.length l->Sn w' A l->bare l=DT s->Below w.heap.size w w'->MV s w e w'):=fun e w' A c k l h1 hk h2 h3 h4=>⟨by rw[if_pos am];exact⟨A,c,l,by rw[<-hk];exact h1,h2,h3⟩,h4⟩;rw[am]at ks;replace ks:=zh ks;replace hs:=zh hs;replace am:=zh am;have cx:=run_make_row' (P:=Tryz.prog) 26 3 (.int .i64 0) 8 Tryz.underlying26 In rfl .i64 .i64 s.ps.length (by omega) (by omega);have bB:=zh (fun w2 h=>RK s Ap Ac Av cp cc cv w2 h (by omega) co cq.out)
   have bt:Hid (∀p,(Cz (Ad s) (Ad s).length p).length<=300):=fun p=>by
    unfold Cz;rw[List.length_map];have h1:=List.length_filter_le (fun x:Nat×Nat=>decide (x.1=p)) ((Ad s).take (Ad s).length);have h2:((Ad s).take (Ad s).length).length<=(Ad s).length:=List.length_take_le' _ _;have h3:(Ad s).length=s.cap.length:=by simp[Ad]
    omega
   have aj:Hid (∀p q,q∈Cz (Ad s) (Ad s).length p↔(p,q)∈Ad s):=fun _ _=>KY
   have bd:Hid (DT s=(ords s.ps.length (Ad s)).map fun p=>(CW s.ps.length (Ad s) p).map fun(q:Nat)=>(q:Int)):=by
    unfold Hid DT As;rw[List.map_map];rfl
   obtain⟨E,bM⟩:∃E,E=Ad s:=⟨_,rfl⟩;obtain⟨adj,aK⟩:∃a,a=Cz (Ad s) (Ad s).length:=⟨_,rfl⟩;rw[<-aK]at bB bt aj;rw[<-bM]at aa aj bd;clear bM aK;obtain⟨i0,bx,cg⟩:=Option.map_eq_some_iff.1 In;simp only[Prod.mk.injEq]at cg;obtain⟨aF,bH,ay⟩:=cg;replace bx:=zh bx;replace aF:=zh aF;replace bH:=zh bH;replace ay:=zh ay;subst bG;go_enter Tryz.func52,Tryz.ntmps52
   go_wp2_with fail
   refine ks.out.mono ?_;rintro e w2 ⟨rfl,hb⟩;have aB:=zh (an.out.trans (hb.mono an.out.size));have aJ:=zh (au.out.below hb);have kg:=zh (bB.out w2 (hs.out.below aB.out));clear hb ks an au u0 u1 u2 u9 bB;have u0:=aJ.out.c0;have u1:=aJ.out.c1;have u2:=aJ.out.c2;have u9:=aJ.out.lt
   go_wp2_with fail
   refine kg.out.mono ?_;rintro e w3 ⟨⟨R,vg,rfl,hG⟩,hb⟩;have bk:=zh (aB.out.trans (hb.mono aB.out.size));clear hb kg aB aJ u0 u1 u2 u9;have kt:=zh (MG R s.ps.length w2.heap.size vg adj w3 (by omega) (fun p _=>by have:=bt.out p;omega) (fun p q _ h=>(aa.out _ ((aj.out p q).1 h)).2) hG);replace hG:=zh hG
   go_wp2_with fail
   refine kt.out.mono ?_;rintro e w4 ⟨⟨R2,vb,T,rfl,aD,hT⟩,hb⟩;have aC:=zh (bk.out.trans (hb.mono bk.out.size));have aU:=zh (hG.out.below hb)
   have bS:Hid (∀p q,p<s.ps.length->(q∈T p↔(p,q)∈Ln E)):=fun p q hp=>by
    rw[hT.1 p q hp,EM,<-aj.out];constructor
    · rintro(⟨_,h⟩ | ⟨_,h⟩)
      · exact h
      · simp at h
    · intro h;exact .inl ⟨(aa.out _ ((aj.out q p).1 h)).1,h⟩
   have bR:Hid (∀p,(T p).length<=60000):=fun p=>by have:=hT.2 p;omega
   replace aD:=zh aD;clear hb kt bk hG hT;have aW:=zh (P1.start E s.ps.length w4 3);have bm:Hid (Below w.heap.size w (((w4.alloc (.map #[] 0)).alloc (.cells (madeCells #[.int .i64 0] s.ps.length) 3)).alloc (.map #[] 0))):=((aC.out.alloc aC.out.size _).alloc (by have:=aC.out.size;simp;omega) _).alloc (by have:=aC.out.size;simp;omega) _;have bn:Hid (Below w4.heap.size w4 (((w4.alloc (.map #[] 0)).alloc (.cells (madeCells #[.int .i64 0] s.ps.length) 3)).alloc (.map #[] 0))):=(((Below.refl _ w4).alloc (Nat.le_refl _) _).alloc (by simp) _).alloc (by simp<;>omega) _;have ae:Hid ((((w4.alloc (.map #[] 0)).alloc (.cells (madeCells #[.int .i64 0] s.ps.length) 3)).alloc (.map #[] 0)).heap.size=w4.heap.size+3):=by unfold Hid;simp
   have ah:Hid (R<w4.heap.size/\R2<w4.heap.size/\(∀i b,i<s.ps.length->(vg i).ownBlock=some b->b<w4.heap.size)/\(∀i b,i<s.ps.length->(vb i).ownBlock=some b->b<w4.heap.size)) :=
    ⟨aU.out.lt,aD.out.lt,fun i b hi e=>((aU.out.rows i hi).lt b e).2,fun i b hi e=>((aD.out.rows i hi).lt b e).2⟩
   have bo:=zh (aU.out.below bn.out);have aV:=zh (aD.out.below bn.out);have cm:w.heap.size<=w4.heap.size:=aC.out.size;go_wp2;obtain⟨w0,ce⟩:∃x,x=(((w4.alloc (.map #[] 0)).alloc (.cells (madeCells #[.int .i64 0] s.ps.length) 3)).alloc (.map #[] 0)):=⟨_,rfl⟩;rw[<-ce]at aW bm ae bo aV ⊢;obtain⟨S,hS⟩:∃x,x=w4.heap.size:=⟨_,rfl⟩;rw[<-hS]at aW ae ah cm ⊢;clear cx b5 bn aU aD ce hS aC
   go_loopw [37] (fun ix wr=>∃(p:Nat) (v:Nat->Value) (F:Nat->Int),p<=s.ps.length/\ix=.int .i64 (p:Int)/\Hid (P1 E s.ps.length w0 S p 0 v F wr)) (fun ix _=>s.ps.length-(intOf ix).toNat)
   case atStart=>exact⟨0,_,_,Nat.zero_le _,rfl,aW⟩
   case round =>
    obtain⟨p,v,F,hp,rfl,hP⟩:=hrel;clear aW
    by_cases hpn:p<s.ps.length
    · have ai:=hP.out.look hpn (by omega);have p0:(0:Int)<=(p:Int):=by omega
      have p1:(p:Int)<(s.ps.length:Int):=by omega
      by_cases hfp:fst E p=p
      · rw [BX (fun c=>c hfp)]at ai;have ak:=bo.out.kp hP.out.kp (by have:=ah.out.1;simp;omega) (fun i b hi e=>by have:=ah.out.2.2.1 i b hi e;simp;omega);have k1:=zh (GQ E R s.ps.length _ p vg adj wr (by omega) (fun x q _=>aj.out x q) aa.out (fun x _=>by have:=bt.out x;omega) hpn ak);replace hfp:=zh hfp;clear ak
        go_wp2_with fail
        refine k1.out.mono ?_;rintro e w5 ⟨⟨m1,rfl,cu,az⟩,hb⟩;have aX:=zh (hP.out.below hb);have cE:S+3<=m1:=by have:=hP.out.kp.size;have:=ae.out;omega
        clear hb cu hP k1 ai;have ak:=aV.out.kp aX.out.kp (by have:=ah.out.2.1;simp;omega) (fun i b hi e=>by have:=ah.out.2.2.2 i b hi e;simp;omega);have k2:=zh (GQ (Ln E) R2 s.ps.length _ p vb T w5 (by omega) (fun x q hx=>bS.out x q hx) (Uc aa.out) (fun x _=>by have:=bR.out x;omega) hpn ak);replace az:=zh az;clear ak
        go_wp2_with fail
        refine k2.out.mono ?_;rintro e w6 ⟨⟨m2,rfl,cw,aI⟩,hb⟩;have br:=zh (aX.out.below hb);have bs:=zh (az.out.below hb);have cF:S+3<=m2:=by have:=aX.out.kp.size;have:=ae.out;omega
        replace aI:=zh aI;clear hb cw aX az k2
        have cd:Hid (∀b,(v p).ownBlock=some b->w6.heap.size<=b):=fun b e=>by
         rw[br.out.lm.nil p hpn (by unfold lsQ;rw[if_pos rfl,Js])]at e
         cases e
        have bP:Hid (Kp [S,S+1,S+1+1] w6 w6):=Kp.refl _ _;go_wp2
        go_loopw [51] (fun ix wz=>∃(q:Nat) (v2:Nat->Value) (F2:Nat->Int),q<=s.ps.length/\ix=.int .i64 (q:Int)/\Hid (P1 E s.ps.length w0 S p q v2 F2 wz)/\Hid (Kp [S,S+1,S+1+1] w6 wz)/\Hid (∀b,(v2 p).ownBlock=some b->w6.heap.size<=b)) (fun ix _=>s.ps.length-(intOf ix).toNat)
        case atStart=>exact⟨0,v,F,Nat.zero_le _,rfl,br,bP,cd⟩
        case round =>
         obtain⟨q,v2,F2,hq,rfl,hP,hK,hv⟩:=hrel;clear br bP cd
         by_cases al:q<s.ps.length
         · have bz:=(bs.out.kp hK.out (by simp;omega)).look al (by omega);have bA:=(aI.out.kp hK.out (by simp;omega)).look al (by omega);have q0:(0:Int)<=(q:Int):=by omega
           have q1:(q:Int)<(s.ps.length:Int):=by omega
           by_cases hr1:Reach E p q
           · rw [C3 hr1]at bz
             by_cases hr2:Reach E q p
             · rw [C3 (Jr.2 hr2)]at bA;obtain⟨W1,cz,_,aY,ax⟩:=hP.out.step ae.out ⟨hr1,hr2⟩ hpn al (by omega) hfp.out;obtain⟨ao,cb,be⟩:=ax _ rfl;obtain⟨d,aA⟩:=be _ rfl;have c1:=aY.cell q al;have c2:=aY.fr q;have c3:=aY.lt
               have had:Hid (∀j u,[(Value.int .i64 (q:Int))][j]? = some u->((W1.setCell ⟨S+1,q,none⟩ (.int .i64 (p:Int))).alloc (.cells #[.int .i64 (q:Int)] 3)).cell? (Addr.add ⟨W1.heap.size,0,none⟩ j)=some u):=by
                have h:=Cx (W1.setCell ⟨S+1,q,none⟩ (.int .i64 (p:Int))) (.int .i64 (q:Int)) 3
                rwa [World.size_setCell]at h
               have b4:Hid ((lsQ E s.ps.length p q p).length<=100):=by
                unfold Hid lsQ;rw[if_pos rfl];unfold Ai;have h:=List.length_filter_le (fun y=>decide (Mut E p y)) (List.range q);rw[List.length_range]at h;omega
               have cn:Hid (w0.heap.size<=((W1.setCell ⟨S+1,q,none⟩ (.int .i64 (p:Int))).alloc (.cells #[.int .i64 (q:Int)] 3)).heap.size):=by
                have h1:=hP.out.kp.size;unfold Hid;rw[World.size_alloc];omega
               obtain⟨vp,ag⟩:∃x,x=v2 p:=⟨_,rfl⟩;rw[<-ag]at ao d aA;rw[<-ag]at hv;replace ag:=zh ag;replace d:=zh d;replace aA:=zh aA;clear hP ax be aY hr1 hr2 cb
               go_wp2_with (at_builtin;refine wpList_append_new _ rfl _ _ 26 rfl w0.heap.size 3 i0 (.int .i64 0) 1 8 Tryz.underlying26 bx.out aF.out bH.out ay.out rfl (by decide) vp _ _ rfl d.out ⟨W1.heap.size,0,none⟩ 1 1 [.int .i64 (q:Int)] rfl rfl had.out (Bg _ rfl) (by decide) (by have:=b4.out;unfold maxLen;omega) (by have:=b4.out;omega) cn.out ?_;intro bJ bK aE aN a3;obtain⟨W4,bD,ar,bO⟩:=aA.out bJ bK aE aN (by simpa using a3);obtain⟨bq,bE⟩:=bO w6 hK.out hv.out;replace ar:=zh ar;replace bq:=zh bq;replace bE:=zh bE;clear aE aN a3 bO)
               exact⟨⟨q+1,_,_,by omega,by go_num,ar,bq,fun b e=>bE.out b (by simpa using e)⟩,by simp only[intOf];omega⟩
             · rw[BX (fun c=>hr2 (Jr.1 c))]at bA;have aq:=zh (hP.out.skip fun c=>hr2 c.2);clear hP hr1 hr2;go_wp2;exact⟨⟨q+1,v2,F2,by omega,by go_num,aq,hK,hv⟩,by simp only[intOf];omega⟩
           · rw[BX hr1]at bz;have aq:=zh (hP.out.skip fun c=>hr1 c.1);clear hP hr1 bA;go_wp2;exact⟨⟨q+1,v2,F2,by omega,by go_num,aq,hK,hv⟩,by simp only[intOf];omega⟩
         · obtain rfl:q=s.ps.length:=by omega
           have aq:=zh (hP.out.next hfp.out hpn (by omega));clear hP;go_wp2;exact⟨⟨p+1,v2,F2,by omega,by go_num,aq⟩,by simp only[intOf];omega⟩
      · rw[C3 hfp]at ai;have aq:=zh (hP.out.had hfp);clear hfp hP;go_wp2;exact⟨⟨p+1,v,F,by omega,by go_num,aq⟩,by simp only[intOf];omega⟩
    · obtain rfl : p = s.ps.length:=by omega
      obtain⟨w7,cA⟩:∃x,x=wr:=⟨_,rfl⟩;subst cA;have bQ:=zh (P2.start hP.out aa.out);have hF:Hid (∀x,x<s.ps.length->F x=(fst E x:Int)):=fun x hx=>hP.out.fs x hx (Vv hx);have a5:=zh hP.out.ro
      have aw:Hid (∀x,x∈leasts s.ps.length E->w7.ownsRow w0.heap.size 3 1 (v x) (CW s.ps.length E x).length (BW (CW s.ps.length E x))):=fun x hx=>by
       have cf:=(By.1 hx).1;have h:=hP.out.lm.rows x cf
       rwa [Ej,NW cf,if_pos hx]at h
      have bN:=zh (aV.out.kp hP.out.kp (by have:=ah.out.2.1;simp;omega) (fun i b hi e=>by have:=ah.out.2.2.2 i b hi e;simp;omega));have ch:Hid (Below w.heap.size w w7):=hP.out.kp.to_below bm.out fun x hx=>by simp at hx;omega
      have cl:S<w7.heap.size:=by have:=hP.out.kp.size;have:=ae.out;omega
      have af:Hid (R2∉[S]/\(∀i b,i<s.ps.length->(vb i).ownBlock=some b->b∉[S])/\S+1∉[S]/\∀x b,x∈leasts s.ps.length E->(v x).ownBlock=some b->b∉[S]):=by
       refine⟨by have:=ah.out.2.1;simp;omega,fun i b hi e=>by have:=ah.out.2.2.2 i b hi e;simp;omega,by simp,fun x b hx e=>?_⟩;have h1:=((aw.out x hx).lt b e).1;have h2:=ae.out;simp;omega
      clear hP aV bo ah bm ae;go_wp2
      go_loopg [13] (leasts s.ps.length E).length (fun m u wz=>∃(A:Option Addr) (c:Nat) (pre left:List Nat),m=left.length/\u=.slice A pre.length c/\Hid (P2 E s.ps.length w7 S v pre left (.slice A pre.length c) wz))
      case atStart=>exact⟨none,0,[],_,rfl,rfl,bQ⟩
      case round =>
       obtain⟨A,c,pre,left,hm,rfl,hP⟩:=hrel;clear bQ;have b2:=hP.out.len 3
       by_cases hl0:left=[]
       · subst hl0;have b7:Hid (ords s.ps.length E=pre):=hP.out.st.end
         have ad:Hid (∀x,x∈pre->x∈leasts s.ps.length E):=fun x hx=>by
          have:=hP.out.st.had x hx;exact By.2 ⟨this.1,this.2.1⟩
         have ck:=zh (So (E:=E) (n:=s.ps.length) (by omega) hP.out.out fun p hp=>RN (aw.out p (ad.out p hp)) hP.out.kp fun b e=>af.out.2.2.2 p b (ad.out p hp) e);have ci:Hid (Below w.heap.size w wr):=hP.out.kp.to_below ch.out fun x hx=>by simp at hx;omega
         have ct:Hid (pre.length=(AN E s.ps.length v pre).length):=by unfold Hid AN;simp
         clear hm hP;go_wp2;go_ret2;exact bp.out _ _ A c _ _ rfl ct.out ck.out (by rw[Px,bd.out,b7.out]) ci.out
       · have bz : 0 < (left.length:Int):=by have:=List.length_pos_iff.2 hl0;omega
         have ba:Hid (∀x,x<0->x∈left->¬Fv E left x):=fun x hx=>absurd hx (Nat.not_lt_zero _)
         have av:Hid (∀x,x∈left->x<s.ps.length/\x∈leasts s.ps.length E):=fun x hx=>by
          have:=hP.out.st.ok.own x hx;exact⟨this.1,By.2 this⟩
         go_wp2;go_step3;go_wp2;go_step3;go_wp2
         go_loopw [13,83] (fun u ix wz=>∃p:Nat,p<=s.ps.length/\u=.slice A pre.length c/\ix=.int .i64 (p:Int)/\wz=wr/\Hid (∀x,x<p->x∈left->¬Fv E left x)) (fun _ ix _=>s.ps.length-(intOf ix).toNat)
         case atStart=>exact⟨0,Nat.zero_le _,rfl,rfl,rfl,ba⟩
         case round =>
          clear ba b2;obtain⟨p,hp,rfl,rfl,aS,a4⟩:=hrel;subst aS
          by_cases hpn:p<s.ps.length
          · have ai:=hP.out.look hpn (by omega);have p0:(0:Int)<=(p:Int):=by omega
            have p1:(p:Int)<(s.ps.length:Int):=by omega
            by_cases ad:p∈left
            · rw [if_pos ad,C3 ad]at ai;obtain⟨ag,aR⟩:=Jt (RN (aw.out p (av.out p ad).2) hP.out.kp fun b e=>af.out.2.2.2 p b (av.out p ad).2 e);rw[ag]at ai;have cH:=zh hpn
              have bY:Hid ((CW s.ps.length E p).length<=s.ps.length):=by
               unfold Hid CW;have h:=List.length_filter_le (fun q=>decide (Mut E p q)) (List.range s.ps.length)
               rwa [List.length_range]at h
              have bX:Hid (∀q,q∈CW s.ps.length E p->q<s.ps.length/\Mut E p q):=fun q hq=>CR.1 hq;have bZ:Hid ((∀q,q∈CW s.ps.length E p->∀h,(h,q)∈E->fst E h∈left->fst E h=p)->Fv E left p):=fun h=>(Kv aa.out).2 h;have b6:Hid (∀h q,q∈CW s.ps.length E p->(h,q)∈E->fst E h∈left->fst E h≠p->¬Fv E left p):=fun h q hq he hl cy cj=>cy ((Kv aa.out).1 cj q hq h he hl);obtain⟨cmp,aM⟩:∃x,x=CW s.ps.length E p:=⟨_,rfl⟩;rw[<-aM]at ai ag aR bY bX bZ b6;obtain⟨Ap2,aG⟩:∃x,x=slA (v p):=⟨_,rfl⟩;obtain⟨bg,a9⟩:∃x,x=slC (v p):=⟨_,rfl⟩;rw[<-aG,<-a9]at ai ag;rw[<-aG]at aR;have bU:Hid (∀q,q∈cmp.take 0->∀h,(h,q)∈E->fst E h∈left->fst E h=p):=fun q hq=>by simp at hq
              replace ag:=zh ag;replace aR:=zh aR;replace aM:=zh aM;clear aG a9;go_wp2
              go_loopw [96] (fun ix wz=>∃j:Nat,j<=cmp.length/\ix=.int .i64 (j:Int)/\wz=wr/\Hid (∀q,q∈cmp.take j->∀h,(h,q)∈E->fst E h∈left->fst E h=p)) (fun ix _=>cmp.length-(intOf ix).toNat)
              case atStart=>exact⟨0,Nat.zero_le _,rfl,rfl,bU⟩
              case round =>
               clear bU ai;obtain⟨j,hj,rfl,aS,aZ⟩:=hrel;subst aS
               by_cases hjl:j<cmp.length
               · obtain ⟨gp,op,rfl,cJ,a1⟩:=aR.out (by simpa using Nat.lt_of_le_of_lt (Nat.zero_le _) hjl);have e1:=a1 j (by simpa using hjl);simp only[List.getElem_map]at e1;have bC:=zh (List.getElem_mem hjl);have a7:cmp.take (j+1)=cmp.take j++[cmp[j]]:=List.take_succ_eq_append_getElem hjl;obtain⟨q,b9⟩:∃x,x=cmp[j]:=⟨_,rfl⟩;rw[<-b9]at e1 bC a7;have al:q<s.ps.length:=(bX.out q bC.out).1;have ak:=bN.out.kp hP.out.kp af.out.1 af.out.2.1;have d1:=ak.hd q al;have d2:=ak.lt;obtain⟨A3,c3,bF,d⟩:=Sc (bN.out.rows q al);rw[bF]at d1
                 have bv:Hid (∀i (hi:i<(T q).length),∃gg,A3=some ⟨gg,0,none⟩/\wr.cell? ⟨gg,i,none⟩=some (.int .i64 ((T q)[i]:Int))/\gg<wr.heap.size):=fun i hi=>by
                  obtain⟨gg,hA,h1,h2⟩:=d i hi;exact⟨gg,hA,(World.cell?_of_block (a:=⟨gg,i,none⟩) (hP.out.kp.block gg h1 (af.out.2.1 q gg al (by rw[bF,hA];rfl)))).trans h2,Nat.lt_of_lt_of_le h1 hP.out.kp.size⟩
                 have j0:(0:Int)<=(j:Int):=by omega
                 have j1:(j:Int)<(cmp.length:Int):=by omega
                 have j2:(0:Int)<=(q:Int):=by omega
                 have j3:(q:Int)<(s.ps.length:Int):=by omega
                 have bT:Hid (∀h,h∈T q↔(h,q)∈E):=fun h=>by rw[bS.out q h al,EM]
                 have cB:=bR.out q;have aF:Hid (∀h,h∈(T q).take 0->fst E h∈left->fst E h=p):=fun h hh=>by simp at hh
                 replace a7:=zh a7;clear ak d bF b9 a1;go_wp2
                 go_loopw [105] (fun ix wz=>∃i:Nat,i<=(T q).length/\ix=.int .i64 (i:Int)/\wz=wr/\Hid (∀h,h∈(T q).take i->fst E h∈left->fst E h=p)) (fun ix _=>(T q).length-(intOf ix).toNat)
                 case atStart=>exact⟨0,Nat.zero_le _,rfl,rfl,aF⟩
                 case round =>
                  clear aF;obtain⟨i,hi,rfl,aS,bI⟩:=hrel;subst aS
                  by_cases hil:i<(T q).length
                  · obtain ⟨gg,rfl,a1,cD⟩:=bv.out i hil;have bw:=(bT.out _).1 (List.getElem_mem hil);have aQ:(T q).take (i+1)=(T q).take i++[(T q)[i]]:=List.take_succ_eq_append_getElem hil;obtain⟨h,b1⟩:∃x,x=(T q)[i]:=⟨_,rfl⟩;rw[<-b1]at a1 bw aQ;have a2:h<s.ps.length:=(aa.out _ bw).1;have aP:=hP.out.kp;have f1:=(a5.out.of_block aP.size (aP.block (S+1) a5.out.lt af.out.2.2.1)).cell h a2;have f2:=(a5.out.of_block aP.size (aP.block (S+1) a5.out.lt af.out.2.2.1)).lt;rw[hF.out h a2]at f1;have ao:=hP.out.look (Gj (E:=E) a2) (by omega)
                    have aL:fst E h∈left->fst E h=p∨¬Fv E left p:=fun hl=>by
                     by_cases e:fst E h=p
                     · exact .inl e
                     · exact .inr (b6.out h q bC.out bw hl e)
                    obtain⟨fh,a0⟩:∃x,x=fst E h:=⟨_,rfl⟩
                    have aT:Hid ((fh∈left->fh=p)->∀x,x∈(T q).take (i+1)->fst E x∈left->fst E x=p):=fun hx x hm hl=>by
                     rw[aQ]at hm
                     rcases List.mem_append.1 hm with hm | hm
                     · exact bI.out x hm hl
                     · rw[List.mem_singleton.1 hm,<-a0]at hl ⊢;exact hx hl
                    have cI:fh<s.ps.length:=by rw[a0];exact Gj a2
                    rw[<-a0]at f1 ao aL;have i0':(0:Int)<=(i:Int):=by omega
                    have i1':(i:Int)<((T q).length:Int):=by omega
                    have i2':(0:Int)<=(h:Int):=by omega
                    have i3':(h:Int)<(s.ps.length:Int):=by omega
                    clear b1 a0 aQ aP bv
                    by_cases hfl:fh∈left
                    · rw [if_pos hfl,C3 hfl]at ao
                      by_cases hfe:fh=p
                      · have m1:((fh:Int) != (p:Int))=false:=by rw[bne_eq_false_iff_eq];omega
                        have ay:=zh (aT.out fun _=>hfe);subst hfe;clear aL aT;go_wp2;exact⟨⟨i+1,by omega,by go_num,trivial,ay⟩,by simp only[intOf];omega⟩
                      · have m1:((fh:Int) != (p:Int))=true:=by rw[bne_iff_ne];omega
                        have aO:Hid (∀x,x<p+1->x∈left->¬Fv E left x):=fun x hx a8=>by
                         by_cases e:x=p
                         · subst e;exact(aL hfl).resolve_left hfe
                         · exact a4.out x (by omega) a8
                        replace hfe:=zh hfe;clear aL aT;go_wp2;exact⟨⟨p+1,by omega,rfl,by go_num,trivial,aO⟩,by simp only[intOf];omega⟩
                    · rw[if_neg hfl,BX hfl]at ao;have ay:=zh (aT.out fun c=>absurd c hfl);clear aL aT;go_wp2;exact⟨⟨i+1,by omega,by go_num,trivial,ay⟩,by simp only[intOf];omega⟩
                  · obtain rfl:i=(T q).length:=by omega
                    have bW:Hid (∀q,q∈cmp.take (j+1)->∀h,(h,q)∈E->fst E h∈left->fst E h=p):=fun x hx h he hl=>by
                     rw[a7.out]at hx
                     rcases List.mem_append.1 hx with hx | hx
                     · exact aZ.out x hx h he hl
                     · rw[List.mem_singleton.1 hx]at he;exact bI.out h (by rw[List.take_length];exact(bT.out h).2 he) hl
                    have cC:=bY.out;clear aZ bI bv;go_wp2;exact⟨⟨j+1,by omega,by go_num,trivial,bW⟩,by simp only[intOf];omega⟩
               · obtain rfl:j=cmp.length:=by omega
                 have aH:=bZ.out fun q hq=>aZ.out q (by rw[List.take_length];exact hq)
                 have b8:Fg E left=some p:=Td hP.out.st.ok ad aH fun x hx hf=>by
                  by_cases c:p<=x
                  · exact c
                  · exact absurd hf (a4.out x (by omega) hx)
                 obtain⟨d,a6,ax⟩:=hP.out.step b8 hpn (by omega) cl;have bf:=ag.out;rw[bf]at d a6 ax;have had:Hid (∀j u,[(Value.slice Ap2 cmp.length bg)][j]? = some u->(wr.alloc (.cells #[.slice Ap2 cmp.length bg] 26)).cell? (Addr.add ⟨wr.heap.size,0,none⟩ j)=some u):=Cx wr _ _
                 have b3:Hid (pre.length<=100):=by
                  have h1:=Dj s.ps.length pre (hP.out.pre_nodup aa.out) fun x hx=>(hP.out.st.had x hx).1;unfold Hid;omega
                 have cr:Hid ((left.erase p).length<gk):=by
                  rw[hm,List.length_erase_of_mem ad];have:=List.length_pos_of_mem ad;unfold Hid;omega
                 have bb:Hid ((pre++[p]).length=pre.length+1):=by unfold Hid;simp
                 obtain⟨g0,bu,b0⟩:=Option.map_eq_some_iff.1 RJ;simp only[Prod.mk.injEq]at b0;obtain⟨bh,bi,bj⟩:=b0;replace d:=zh d;replace a6:=zh a6;replace ax:=zh ax;replace bu:=zh bu;replace bh:=zh bh;replace bi:=zh bi;replace bj:=zh bj;clear aZ aH b8 bf hP
                 go_wp2_with (at_builtin;refine wpList_append_new _ rfl _ _ 66 rfl w7.heap.size 26 g0 (.slice none 0 0) 1 24 Tryz.underlying66 bu.out bh.out bi.out bj.out rfl (by decide) (.slice A pre.length c) pre.length _ rfl d.out ⟨wr.heap.size,0,none⟩ 1 1 [.slice Ap2 cmp.length bg] rfl rfl had.out (Bg _ rfl) (by decide) (by have:=b3.out;unfold maxLen;omega) (by have:=b3.out;omega) a6.out ?_;intro bJ bK aE aN a3;obtain⟨W4,bD,ar⟩:=ax.out bJ bK aE aN;obtain⟨A9,c9,rfl⟩:=EH aE;replace ar:=zh ar;clear aE aN a3)
                 rw[Exit.noGoto_normal];go_wp2
                 go_roundg (left.erase p).length
                 case measure=>exact cr.out
                 case rel=>exact⟨A9,c9,pre++[p],left.erase p,rfl,by rw[bb.out],by have h:=ar.out;rwa [<-bb.out]at h⟩
            · rw [if_neg ad,BX ad]at ai
              have aO:Hid (∀x,x<p+1->x∈left->¬Fv E left x):=fun x hx a8=>by
               by_cases e:x=p
               · subst e;exact absurd a8 ad
               · exact a4.out x (by omega) a8
              clear ad;go_wp2;exact⟨⟨p+1,by omega,rfl,by go_num,trivial,aO⟩,by simp only[intOf];omega⟩
          · exfalso;obtain⟨x,hx,hf⟩:=hP.out.st.ok.free hl0;exact a4.out x (by have:=(av.out x hx).1;omega) hx hf
end Ci
end
section
open Go.RowKit Go.Shelf
namespace Sh
open Nt Ci
theorem Py {S:Rat->Bool} {L:List Lp} {u:List Nat} {val:Nat->Rat} {p:Nat} (h:p∉u):C5 S L u val p=val p:=by
 unfold C5
 cases A6 S u.length u.length (Bh L u val) with
 | ok M=>exact if_neg h
 | error _=>rfl
theorem Dr {l:List Nat} {i x:Nat} (h:i<l.length):x∈l.take (i+1)↔x∈l.take i∨x=l[i]:=by
 rw[List.take_succ_eq_append_getElem h,List.mem_append,List.mem_singleton]
theorem Ju {S:Rat->Bool} {L:List Lp} {u:List Nat}:∀(us:List (List Nat)) (val:Nat->Rat),MB S L (us++[u]) val=C5 S L u (MB S L us val)
 | [],_=>rfl
 | _::us,_=>Ju us _
theorem Ready.take {L:List Lp} {F:List Nat}:∀{us:List (List Nat)} {done:List Nat} (k:Nat),Ready L F done us->Ready L F done (us.take k)
 | [],_,k,_=>by rw[List.take_nil];trivial
 | _::_,_,0,_=>trivial
 | _::us,_,k+1,h=>⟨h.1,Ready.take k h.2⟩
theorem Ready.at {L:List Lp} {F:List Nat}:∀{us:List (List Nat)} {done:List Nat} (k:Nat) (hk:k<us.length),Ready L F done us->Nxt L F (done++(us.take k).flatten) us[k]
 | u::us,done,0,_,h=>by simpa using h.1
 | u::us,done,k+1,hk,h=>by
   have:=Ready.at (done:=done++u) k (by simpa using hk) h.2
   simpa [List.append_assoc] using this
noncomputable def DI (L:List Lp) (F:List Nat) (us:List (List Nat)) (k:Nat):Nat->Rat:=MB SQ L (us.take k) fun p=>if p∈F then 1 else 0
theorem MW {L:List Lp} {F:List Nat} {us:List (List Nat)} {k:Nat} (hk:k<us.length):DI L F us (k+1)=C5 SQ L us[k] (DI L F us k):=by
 unfold DI;rw[List.take_succ_eq_append_getElem hk,Ju]
theorem Pz {us:List (List Nat)} {k:Nat} (hk:k<us.length):(us.take k).flatten.length+us[k].length<=us.flatten.length:=by
 have h:=congrArg (fun l=>(List.flatten l).length) (List.take_append_drop (k+1) us);simp only[List.flatten_append,List.length_append,List.take_succ_eq_append_getElem hk,List.flatten_cons,List.flatten_nil,List.append_nil]at h;omega
theorem P0 {n:Nat} {L:List Lp} {F:List Nat} {us:List (List Nat)} (hL:Caps n L) (hr:Ready L F [] us) (d:us.flatten.length<=16) (k:Nat) :
 ∃D,D<=6000^16/\Inv L F (us.take k).flatten (DI L F us k) D:=by
 have a:(us.take k).flatten.length<=16:=by
  have h:=congrArg (fun l=>(List.flatten l).length) (List.take_append_drop k us);simp only[List.flatten_append,List.length_append]at h;omega
 obtain⟨D,hD⟩:=Inv.run hL ME (us.take k) [] _ 1 (Inv.start L F) (hr.take k) (by simpa using a);rw[List.nil_append]at hD;exact⟨D,Nat.le_trans hD.dle (Nat.pow_le_pow_right (by omega) a),hD⟩
theorem Inv.vals {L:List Lp} {F done:List Nat} {val:Nat->Rat} {D:Nat} (h:Inv L F done val D) (hD:D<=6000^16):Vals val D:=⟨h.rng,h.dp,hD,h.whole⟩
theorem MX {L:List Lp} {F:List Nat} {us:List (List Nat)} (hr:Ready L F [] us) {k:Nat} (hk:k<us.length):Nxt L F (us.take k).flatten us[k]:=by
 have:=hr.at k hk
 rwa [List.nil_append]at this
noncomputable def Iq (L:List Lp) (u:List Nat) (val:Nat->Rat) (i:Nat):Nat->Rat:=fun p=>if p∈u.take i then C5 SQ L u val p else val p
theorem Sp {L:List Lp} {u:List Nat} {val:Nat->Rat}:Iq L u val 0=val:=by funext p;unfold Iq;simp
theorem Sq {L:List Lp} {u:List Nat} {val:Nat->Rat} {i:Nat} (h:i<u.length) (x:Nat):(if x=u[i] then C5 SQ L u val u[i] else Iq L u val i x)=Iq L u val (i+1) x:=by
 unfold Iq
 by_cases e:x=u[i]
 · rw[if_pos e,if_pos ((Dr h).2 (.inr e)),e]
 · rw[if_neg e]
   by_cases e2:x∈u.take i
   · rw[if_pos e2,if_pos ((Dr h).2 (.inl e2))]
   · rw[if_neg e2,if_neg fun c=>((Dr h).1 c).elim e2 e]
theorem Uh {L:List Lp} {u:List Nat} {val:Nat->Rat}:Iq L u val u.length=C5 SQ L u val:=by
 funext p
 unfold Iq;rw[List.take_length]
 by_cases e:p∈u
 · rw[if_pos e]
 · rw[if_neg e,Py e]
noncomputable def Ha (F:List Nat) (k:Nat):Nat->Rat:=fun p=>if p∈F.take k then 1 else 0
theorem P3 {F:List Nat}:Ha F 0=fun _=>0:=by funext p;unfold Ha;simp
theorem P4 {F:List Nat} {k p:Nat} (h:F[k]? = some p) (x:Nat):(if x=p then (1:Rat) else Ha F k x)=Ha F (k+1) x:=by
 obtain⟨hk,rfl⟩:=List.getElem?_eq_some_iff.1 h;unfold Ha
 by_cases e:x=F[k]
 · rw[if_pos e,if_pos ((Dr hk).2 (.inr e))]
 · rw[if_neg e]
   by_cases e2:x∈F.take k
   · rw[if_pos e2,if_pos ((Dr hk).2 (.inl e2))]
   · rw[if_neg e2,if_neg fun c=>((Dr hk).1 c).elim e2 e]
theorem Sr {L:List Lp} {F:List Nat} {us:List (List Nat)}:Ha F F.length=DI L F us 0:=by
 funext p;unfold Ha DI;rw[List.take_length,List.take_zero];rfl
theorem P5 {s:SR} {l:List (Option Addr×Nat×List Int)} (h:bare l=DT s) {k:Nat} (hk:k<l.length):∃hc:k<(As s.ps.length (Ad s)).length,l[k].2.2=((As s.ps.length (Ad s))[k]).map fun(q:Nat)=>(q:Int):=by
 have hl:=congrArg List.length h;simp only[bare,DT,List.length_map]at hl;refine⟨by omega,?_⟩;have h1:(bare l)[k]'(by simpa [bare] using hk)=(DT s)[k]'(by simp[DT];omega):=by simp only[h]
 simpa [bare,DT] using h1
noncomputable def CZ (n:Nat) (E:List (Nat×Nat)) (F:List Nat) (t:Nat):List (List Nat):=((As n E).take t).map (unk E F)
noncomputable def G6 (n:Nat) (E:List (Nat×Nat)) (F:List Nat) (t:Nat):List (List Nat):=(CZ n E F t).filter fun u=>decide (u≠[])
section
variable {n:Nat} {E:List (Nat×Nat)} {F:List Nat} {t:Nat}
theorem Fe (h:t<(As n E).length):CZ n E F (t+1)=CZ n E F t++[unk E F (As n E)[t]]:=by
 unfold CZ;rw[List.take_succ_eq_append_getElem h,List.map_append,List.map_singleton]
theorem EN:CZ n E F (As n E).length=BV n E F:=by unfold CZ BV;rw[List.take_length]
theorem Ss:G6 n E F (As n E).length=GO n E F:=by unfold G6 GO;rw[EN]
theorem St (h:t<(As n E).length) (h0:unk E F (As n E)[t]=[]):G6 n E F (t+1)=G6 n E F t:=by
 unfold G6;rw[Fe h,List.filter_append,h0];simp
theorem P6 (h:t<(As n E).length) (h0:unk E F (As n E)[t]≠[]):G6 n E F (t+1)=G6 n E F t++[unk E F (As n E)[t]]:=by
 unfold G6;rw[Fe h,List.filter_append];simp[h0]
theorem Jv:(CZ n E F t).flatten.length<=(BV n E F).flatten.length:=by
 have e:CZ n E F t=(BV n E F).take t:=by unfold CZ BV;rw[List.map_take]
 rw[e];have h:=congrArg (fun l=>(List.flatten l).length) (List.take_append_drop t (BV n E F));simp only[List.flatten_append,List.length_append]at h;omega
theorem MY (h:t<(As n E).length):(CZ n E F (t+1)).flatten.length=(CZ n E F t).flatten.length+(unk E F (As n E)[t]).length:=by
 rw[Fe h,List.flatten_append,List.length_append];simp
theorem Lq:(G6 n E F t).length<=t:=by
 unfold G6 CZ;refine Nat.le_trans (List.length_filter_le _ _) ?_;rw[List.length_map,List.length_take];omega
theorem Su (h:t<(As n E).length) (h8:8<(unk E F (As n E)[t]).length):BI n E F=true:=by
 unfold BI;rw[Bool.or_eq_true,List.any_eq_true];refine .inl ⟨_,?_,decide_eq_true h8⟩;unfold BV;exact List.mem_map.2 ⟨_,List.getElem_mem h,rfl⟩
theorem Sv (h:16<(CZ n E F (As n E).length).flatten.length):BI n E F=true:=by
 unfold BI;rw[EN]at h;rw[decide_eq_true h,Bool.or_true]
theorem Ui (h:(CZ n E F (As n E).length).flatten.length<=16) (h8:∀u,u∈CZ n E F (As n E).length->u.length<=8):BI n E F=false:=by
 unfold BI;rw[EN]at h h8;rw[decide_eq_false (by omega),Bool.or_false];refine Bool.eq_false_iff.2 fun c=>?_;obtain⟨u,hu,h9⟩:=List.any_eq_true.1 c;have:=of_decide_eq_true h9;have:=h8 u hu;omega
theorem Sw {c:List Nat} {i:Nat} (h:i<c.length):unk E F (c.take (i+1))=unk E F (c.take i)++if 0<rk E F c[i] then [c[i]] else []:=by
 unfold unk;rw[List.take_succ_eq_append_getElem h,List.filter_append]
 congr 1
 by_cases d:0<rk E F c[i]
 · simp[d]
 · simp[d]
theorem P7 {k i:Nat} (hE:InN n E) (hk:k<(As n E).length) (hi:i<((As n E)[k]).length):((As n E)[k])[i]<n/\at' n E ((As n E)[k])[i]=k:=by
 have hm:=List.getElem_mem hi
 have a:∀q,q∈(As n E)[k]->q<n:=by
  rw[Fa];exact fun q hq=>(CR.1 hq).1
 have h1:((As n E)[k])[i]<n:=a _ hm;exact⟨h1,((Gz hE h1 hk).1 hm).symm⟩
theorem Ir (hE:InN n E) {t:Nat} (h:t<(As n E).length):∀p,p∈(As n E)[t]->p<n:=fun p hp=>by
 obtain⟨i,hi,rfl⟩:=List.getElem_of_mem hp;exact(P7 hE h hi).1
theorem NX {c:List Nat}:(unk E F c).length<=c.length:=List.length_filter_le _ _
theorem P8 (hE:InN n E) {u:List Nat} (h:u∈GO n E F):(∀p,p∈u->p<n)/\u∈CZ n E F (As n E).length:=by
 have h1:=(List.mem_filter.1 h).1;refine⟨fun p hp=>?_,by rw[EN];exact h1⟩;obtain⟨c,hc,rfl⟩:=List.mem_map.1 h1;obtain⟨t,ht,rfl⟩:=List.getElem_of_mem hc;exact Ir hE ht p (List.mem_filter.1 hp).1
theorem Uj {E:List Ent} (h:(E.map Ent.x).Nodup) {k:Nat} (hk:k<E.length):E[k].x∉(E.take k).map Ent.x:=fun hm=>by
 obtain⟨e,he,hx⟩:=List.mem_map.1 hm;obtain⟨j,hj,rfl⟩:=List.getElem_of_mem he;rw[List.length_take]at hj;rw[List.getElem_take]at hx;have:=List.pairwise_iff_getElem.1 h j k (by rw[List.length_map];omega) (by rw[List.length_map];omega) (by omega);rw[List.getElem_map,List.getElem_map]at this;exact this hx
theorem Lr {L:List Lp} (hL:Caps n L):Ready L F [] (GO n (Am L) F):=(G0 hL.inN).drop_nil
end
end Sh
end
section
open Go.RowKit Go.Shelf
namespace Sh
open Nt Ci
theorem JZ (A:Option Addr) (ca:Nat) (n:Int) (l:List Int) (w:World) (hA:InInt w A l) (hl:l.length<=140737488355328) :
 Calls Tryz.prog 51 #[.slice A l.length ca,.int .i64 n] w fun e w'=>e=.returned (.bool (BK n l))/\w'=w:=by
 have ag:=zh (fun(k:Nat) (h:k<l.length) (hb:¬D4 n l k h)=>Li h hb);have af:=zh (Lj (n:=n) (l:=l));replace hA:=zh hA;go_enter Tryz.func51,Tryz.ntmps51;go_wp2
 go_loopw [9] (fun i wr=>wr=w/\∃k:Nat,k<=l.length/\i=.int .i64 (k:Int)/\Hid (∀j (h:j<l.length),j<k->D4 n l j h)) (fun i _=>l.length-(intOf i).toNat)
 case atStart=>exact⟨rfl,0,Nat.zero_le _,rfl,fun j _ h=>absurd h (Nat.not_lt_zero _)⟩
 case round =>
  obtain⟨rfl,k,hk,rfl,hI⟩:=hrel;obtain⟨wq,rfl⟩:∃z,z=wr:=⟨_,rfl⟩
  by_cases hlt:k<l.length
  · obtain ⟨b1,o1,rfl,ai,ad⟩:=hA.out (by omega);have e1:wq.cell? ⟨b1,o1+k,none⟩=some (.int .i64 l[k]):=ad k hlt;have e0:Hid (0<k->wq.cell? ⟨b1,o1+(k-1),none⟩=some (.int .i64 (l[k-1]'(by omega)))):=fun h=>ad (k-1) (by omega);have aa:=zh (ag.out k hlt)
    have ae:Hid (D4 n l k hlt->∀j (h:j<l.length),j<k+1->D4 n l j h):=fun h j h1 h3=>by
     by_cases e:j=k
     · subst e;exact h
     · exact hI.out j h1 (by omega)
    have a:Hid (D4 n l k hlt↔(0<=l[k]/\l[k]<n)/\(0<k->l[k-1]'(by omega)<l[k])):=Iff.rfl;obtain⟨x,hx⟩:∃x,x=l[k]:=⟨_,rfl⟩;rw[<-hx]at e1 a;have j0:(0:Int)<=(k:Int):=by omega
    have j1:(k:Int)<(l.length:Int):=by omega
    clear ad hI hx;have ah:x<0∨(0<=x/\n<=x)∨(0<=x/\x<n):=by omega
    rcases ah with h1 | ⟨h1,h2⟩ | ⟨h1,h2⟩
    · have hG:=zh (aa.out fun h=>by have:=(a.out.1 h).1.1;omega);have m1:decide (x<0)=true:=decide_eq_true h1;go_wp2;go_ret;exact⟨Ak hG.out.symm,rfl⟩
    · have hG:=zh (aa.out fun h=>by have:=(a.out.1 h).1.2;omega);have m1:decide (x<0)=false:=decide_eq_false (by omega);have m2:decide (n<=x)=true:=decide_eq_true h2;go_wp2;go_ret;exact⟨Ak hG.out.symm,rfl⟩
    · have m1:decide (x<0)=false:=decide_eq_false (by omega);have m2:decide (n<=x)=false:=decide_eq_false (by omega)
      by_cases hk0:k=0
      · have m3:decide (0<(k:Int))=false:=decide_eq_false (by omega);have m4:decide (0<k)=false:=decide_eq_false (by omega);have d:=zh (ae.out (a.out.2 ⟨⟨h1,h2⟩,fun h=>by omega⟩));replace hk0:=zh hk0;go_wp2;exact⟨⟨(by first | rfl | trivial),k+1,by omega,by go_num,d⟩,by simp only[intOf];omega⟩
      · have m3:decide (0<(k:Int))=true:=decide_eq_true (by omega);have m4:decide (0<k)=true:=decide_eq_true (by omega);have e2:=e0.out (by omega);obtain⟨y,hy⟩:∃y,y=l[k-1]'(by omega):=⟨_,rfl⟩;rw[<-hy]at e2;have j2:(0:Int)<=(k:Int)-1:=by omega
        have j3:(k:Int)-1<(l.length:Int):=by omega
        have j5:((k:Int)-1).toNat=k-1:=by omega
        by_cases hxy:y<x
        · have m5:decide (x<=y)=false:=decide_eq_false (by omega);have d:=zh (ae.out (a.out.2 ⟨⟨h1,h2⟩,fun _=>by rw[<-hy];exact hxy⟩));replace hy:=zh hy;go_wp2;exact⟨⟨(by first | rfl | trivial),k+1,by omega,by go_num,d⟩,by simp only[intOf];omega⟩
        · have m5:decide (x<=y)=true:=decide_eq_true (by omega);have hG:=zh (aa.out fun h=>by have h3:=(a.out.1 h).2 (by omega);rw[<-hy]at h3;omega);replace hy:=zh hy;go_wp2;go_ret;exact⟨Ak hG.out.symm,rfl⟩
  · obtain rfl:k=l.length:=by omega
    have hG:=zh (af.out fun j h=>hI.out j h h);clear hI;go_wp2;go_ret;exact⟨Ak hG.out.symm,rfl⟩
end Sh
end
section
open Go.RowKit Go.Shelf
namespace Sh
open Nt Ci
theorem Vw:(Tryz.prog.info? 72).map (fun i=>(i.zero,i.size,i.bytes))=some (some (.pointer none),1,8):=by kernel_rfl
theorem P9 {n:Nat} {F:List Int} (h:BK n F=true):F.length<=n:=by
 have hk:∀k (hk:k<F.length),(k:Int)<=F[k]:=fun k=>by
  induction k with
  | zero=>intro hk;exact(D5 h hk).1.1
  | succ k ih =>
    intro hk;have h1:=ih (by omega);have h2:=(D5 h hk).2 (by omega);simp only[Nat.add_sub_cancel]at h2;omega
 by_cases h0:0<F.length
 · have h1:=hk (F.length-1) (by omega);have h2:=(D5 h (by omega:F.length-1<F.length)).1.2;omega
 · omega
theorem Is {W W':World} {A:Option Addr} {l:List (Option Addr×Nat×List Int)} (h:Sn W A l) (hb:Below W.heap.size W W'):Sn W' A l:=fun h0=>by
 obtain⟨b,off,e,hl,hc⟩:=h h0;exact⟨b,off,e,Nat.lt_of_lt_of_le hl hb.size,fun j hj=>⟨(hb.cell (p:=⟨b,_,none⟩) hl).trans (hc j hj).1,(hc j hj).2.1.below hb,(hc j hj).2.2⟩⟩
theorem VMC.off {w:World} {vb mb n C b o:Nat} {val:Nat->Rat} {x:Value} (h:VMC w vb mb n val C) (hc:w.cell? ⟨b,o,none⟩=some x):b≠mb:=fun e=>by
 obtain⟨c,f,⟨D,⟨es,clock,hb,_⟩,_⟩,_⟩:=h.m;subst e;rw[World.cell?,hb]at hc
 cases hc
def Ka (s:SR) (F:List Int) (w:World) (e:Ending) (w':World):Prop :=
 (if At s=true/\BK s.ps.length F=true then
   (if BI s.ps.length (Ad s) (toN F)=true then e=.returned (.tuple #[.slice none 0 0,.int .i64 2])
    else ∃b,e=.returned (.tuple #[.slice (some ⟨b,0,none⟩) s.ps.length s.ps.length,.int .i64 0])/\w.heap.size<=b/\RowB w' b s.ps.length fun p=>rq (KW SQ s.ps.length (Ae s.cap) (toN F) p))
   else e=.returned (.tuple #[.slice none 0 0,.int .i64 1]))/\Below w.heap.size w w'
theorem Uk (s : SR) (Ap Ac Av Af:Option Addr) (cp cc cv cf:Nat) (F:List Int) (w:World) (hE:Env w) (hs:StIn w s Ap Ac Av) (cH:s.cap.length<=300) (hF:InInt w Af F) (ds:F.length<=140737488355328) :
 Calls Tryz.prog 20 #[.agg #[.slice Ap s.ps.length cp,.slice Ac s.cap.length cc,.slice Av s.vot.length cv],.slice Af F.length cf] w (Ka s F w):=by
 have er:=hs.np;have ad:Hid (Bk (w.alloc (.cells #[.slice Ap s.ps.length cp,.slice Ac s.cap.length cc,.slice Av s.vot.length cv] 25)) w.heap.size 25 (SC s Ap Ac Av cp cc cv)):=Bk.new w _ _;have ak:Hid (Below w.heap.size w (w.alloc (.cells #[.slice Ap s.ps.length cp,.slice Ac s.cap.length cc,.slice Av s.vot.length cv] 25))):=(Below.refl _ w).alloc (Nat.le_refl _) _;have bb:Hid (∀e w',(¬(At s=true/\BK s.ps.length F=true))->e=.returned (.tuple #[.slice none 0 0,.int .i64 1])->Below w.heap.size w w'->Ka s F w e w'):=fun e w' h1 h2 h3=>⟨by rw[if_neg h1];exact h2,h3⟩;have bj:Hid (∀e w',At s=true/\BK s.ps.length F=true->BI s.ps.length (Ad s) (toN F)=true->e=.returned (.tuple #[.slice none 0 0,.int .i64 2])->Below w.heap.size w w'->Ka s F w e w'):=fun e w' h1 h2 h3 h4=>⟨by rw[if_pos h1,if_pos h2];exact h3,h4⟩;have bh:Hid (∀e w' b,At s=true/\BK s.ps.length F=true->BI s.ps.length (Ad s) (toN F)=false->e=.returned (.tuple #[.slice (some ⟨b,0,none⟩) s.ps.length s.ps.length,.int .i64 0])->w.heap.size<=b->RowB w' b s.ps.length (fun p=>rq (KW SQ s.ps.length (Ae s.cap) (toN F) p))->Below w.heap.size w w'->Ka s F w e w'):=fun e w' b h1 h2 h3 h4 h5 h6=>⟨by rw[if_pos h1,if_neg (by rw[h2];decide)];exact⟨b,h3,h4,h5⟩,h6⟩;have kS:=fun W (h:Below w.heap.size w W)=>Ea s Ap Ac Av cp cc cv W (hE.below h) (hs.below h);have c8:Hid (∀W,Below w.heap.size w W->StIn W s Ap Ac Av):=fun W h=>hs.below h;have kR:=zh (fun W (h:Below w.heap.size w W)=>Fc s Ap Ac Av Af cp cc cv cf F W (hE.below h) (c8.out W h) cH (hF.below h) ds);have kC:=zh (fun W (h:Below w.heap.size w W)=>Ip s Ap Ac Av cp cc cv W (hE.below h) (c8.out W h) cH);have kP:=fun W (h:Below w.heap.size w W)=>JZ Af cf (s.ps.length:Int) F W (hF.below h) ds;replace hE:=zh hE;replace hs:=zh hs;replace hF:=zh hF
 cases af:At s with
 | false =>
   have cX:Hid (¬(At s=true/\BK s.ps.length F=true)):=fun h=>by rw[af]at h;cases h.1
   rw[af]at kS;replace kS:=zh kS;replace af:=zh af;have u0:=ad.out.c0;have u1:=ad.out.c1;have u2:=ad.out.c2;have u9:=ad.out.lt;go_enter Tryz.func20,Tryz.ntmps20
   go_wp2_with fail
   go_step3
   go_wp2_with fail
   refine(kS.out _ ak.out).mono ?_;rintro e w1 ⟨rfl,hb⟩;have aD:=zh (ak.out.trans (hb.mono ak.out.size));have ae:=zh (ad.out.below hb);clear hb kS ak ad u0 u1 u2 u9;go_wp2;rw[Exit.noGoto_ret];go_ret2;exact bb.out _ _ cX.out rfl aD.out
 | true =>
   rw[af]at kS;replace kS:=zh kS;replace af:=zh af
   cases ax:BK s.ps.length F with
   | false =>
     have cX:Hid (¬(At s=true/\BK s.ps.length F=true)):=fun h=>by rw[ax]at h;cases h.2
     rw[ax]at kP;replace kP:=zh kP;replace ax:=zh ax;have u0:=ad.out.c0;have u1:=ad.out.c1;have u2:=ad.out.c2;have u9:=ad.out.lt;go_enter Tryz.func20,Tryz.ntmps20
     go_wp2_with fail
     go_step3
     go_wp2_with fail
     refine(kS.out _ ak.out).mono ?_;rintro e w1 ⟨rfl,hb⟩;have aD:=zh (ak.out.trans (hb.mono ak.out.size));have ae:=zh (ad.out.below hb);clear hb kS ak ad u0 u1 u2 u9;have u0:=ae.out.c0;have u1:=ae.out.c1;have u2:=ae.out.c2;have u9:=ae.out.lt
     go_wp2_with fail
     refine(kP.out _ aD.out).mono ?_;rintro e wq ⟨rfl,hq⟩;obtain rfl:=hq.symm;go_wp2;rw[Exit.noGoto_ret];go_ret2;exact bb.out _ _ cX.out rfl aD.out
   | true =>
     rw[ax]at kP;replace kP:=zh kP;have u0:=ad.out.c0;have u1:=ad.out.c1;have u2:=ad.out.c2;have u9:=ad.out.lt;go_enter Tryz.func20,Tryz.ntmps20
     go_wp2_with fail
     go_step3
     go_wp2_with fail
     refine(kS.out _ ak.out).mono ?_;rintro e w1 ⟨rfl,hb⟩;have aD:=zh (ak.out.trans (hb.mono ak.out.size));have ae:=zh (ad.out.below hb);clear hb kS ak ad u0 u1 u2 u9;have u0:=ae.out.c0;have u1:=ae.out.c1;have u2:=ae.out.c2;have u9:=ae.out.lt
     go_wp2_with fail
     refine(kP.out _ aD.out).mono ?_;rintro e wq ⟨rfl,hq⟩;obtain rfl:=hq.symm;clear u0 u1 u2 u9;have bZ:Hid (At s=true/\BK s.ps.length F=true):=⟨af.out,ax⟩;have ew:=P9 ax;have ep:=Jl af.out;replace ax:=zh ax;clear kP bb;have kR1:=zh (kR.out w1 aD.out);have u0:=ae.out.c0;have u1:=ae.out.c1;have u2:=ae.out.c2;have u9:=ae.out.lt
     go_wp2_with fail
     refine kR1.out.mono ?_;rintro e w2 ⟨hr,hb⟩;rw[if_pos bZ.out]at hr;obtain⟨rkb,rfl,cm,b1⟩:=hr;have aJ:=zh (aD.out.trans (hb.mono aD.out.size));have a5:=zh (ae.out.below hb);replace b1:=zh b1;replace cm:=zh cm;clear hb kR kR1 u0 u1 u2 u9 ae;have kC1:=zh (kC.out w2 aJ.out);have u0:=a5.out.c0;have u1:=a5.out.c1;have u2:=a5.out.c2;have u9:=a5.out.lt
     go_wp2_with fail
     refine kC1.out.mono ?_;rintro e w4 ⟨hr,hb⟩;rw[if_pos af.out]at hr;obtain⟨Al,cl,l,rfl,bW,bS⟩:=hr;have bN:=zh (aJ.out.trans (hb.mono aJ.out.size));have cF:=zh (a5.out.below hb);have cn:=zh (b1.out.below hb);replace bW:=zh bW;replace bS:=zh bS;clear hb kC kC1 u0 u1 u2 u9 a5 b1 aJ;have ef:=@run_makeMap Tryz.prog;obtain⟨mb,bX⟩:∃x,x=w4.heap.size:=⟨_,rfl⟩;obtain⟨vb,bH⟩:∃x,x=w4.heap.size+1:=⟨_,rfl⟩;obtain⟨w5,bI⟩:∃W,W=((w4.alloc (.map #[] 0)).alloc (.cells #[.map (some w4.heap.size)] 69)):=⟨_,rfl⟩;have dk:Hid (Below w4.heap.size w4 w5):=by rw[bI];exact((Below.refl _ w4).alloc (Nat.le_refl _) _).alloc (by simp) _
     have bo:Hid (VMC w5 vb mb s.ps.length (Ha (toN F) 0) 0):=by rw[bI,bH,bX,P3];exact⟨by have h:=Bk.new (w4.alloc (.map #[] 0)) 69 [.map (some w4.heap.size)];rw[World.size_alloc]at h;exact h,⟨0,fun _=>none,(MapK.made w4 Tryz.prog 3 κi).alloc _,Nat.le_refl _,fun _ _=>rfl⟩,by omega⟩
     go_wp2_with fail
     (try rw[<-bI])
     (try rw[<-bH])
     replace bI:=zh bI;replace bH:=zh bH;replace bX:=zh bX;clear ef;have bJ:Hid (w.heap.size<w4.heap.size):=cF.out.lt;have ao:=zh (fun W (h:Below w4.heap.size w4 W)=>bN.out.trans (h.mono bN.out.size));have aY:Hid (mb=w4.heap.size/\vb=w4.heap.size+1):=⟨bX.out,bH.out⟩
     go_loopw [54] (fun ix wr=>∃(k:Nat),k<=F.length/\ix=.int .i64 (k:Int)/\Hid (Below w4.heap.size w4 wr)/\Hid (VMC wr vb mb s.ps.length (Ha (toN F) k) k)) (fun ix _=>F.length-(intOf ix).toNat)
     case atStart=>exact⟨0,Nat.zero_le _,rfl,dk,bo⟩
     case round =>
      clear dk bo;obtain⟨k,hk,rfl,an,aj⟩:=hrel;obtain⟨wz,rfl⟩:∃z,z=wr:=⟨_,rfl⟩
      by_cases hkl:k<F.length
      · obtain⟨p,cY,eF,cZ⟩:=Sb ax.out hkl;obtain⟨fb,fo,rfl,eB,aL⟩:=(hF.out.below (ao.out _ an.out)) (by omega);have e1:=aL k hkl;rw[cY]at e1;clear aL;have j0:(0:Int)<=(k:Int):=by omega
        have j1:(k:Int)<(F.length:Int):=by omega
        replace cY:=zh cY;replace cZ:=zh cZ
        go_wp2_with fail
        refine ef9 vb mb s.ps.length k p (Ha (toN F) k) wz (hE.out.below (ao.out _ an.out)) aj.out (by omega) (by omega) ?_;intro _ _ _ we bp aF;have dX:Hid (Below w4.heap.size w4 we):=aF.out.to_below an.out (fun x hx=>by have:=aY.out.1;simp at hx;omega);have cE:Hid (VMC we vb mb s.ps.length (Ha (toN F) (k+1)) (k+1)):=bp.out.congr fun x _=>(P4 cZ.out x).symm;clear bp aF an aj;go_wp2;exact⟨⟨k+1,by omega,by go_num,dX,cE⟩,by simp only[intOf];omega⟩
      · obtain rfl : k=F.length:=by omega
        have d9:=zh (cF.out.below an.out);have dO:=zh (cn.out.below an.out);have dK:=zh (Is bW.out an.out);have ba:=zh (ao.out _ an.out);clear cF cn bW ao
        go_wp2_with fail
        go_step3
        go_wp2_with fail
        have cV:l.length=(As s.ps.length (Ad s)).length:=by have:=congrArg List.length bS.out;simpa [bare,DT] using this
        have aT:Hid (VMC wz vb mb s.ps.length (Ha (toN F) F.length) F.length):=aj;have db:Hid (mb<wz.heap.size/\vb<wz.heap.size):=⟨aj.out.lt,aj.out.x.lt⟩;clear aj;have bU:Hid (InN s.ps.length (Ad s)):=by rw[<-CL];exact(Cl af.out).inN
        have ea:(As s.ps.length (Ad s)).length<=60:=by have h1:=Gy (n:=s.ps.length) (E:=Ad s);have h2:=RG bU.out;omega
        have cK:Hid (∀t (h:t<(As s.ps.length (Ad s)).length),((As s.ps.length (Ad s))[t]).length<=60/\∀p,p∈(As s.ps.length (Ad s))[t]->p<s.ps.length):=fun t h=>⟨by have h1:=Dj _ _ (GN h) (Ir bU.out h);omega,Ir bU.out h⟩;obtain⟨i0,cR,bM⟩:=Option.map_eq_some_iff.1 In;simp only[Prod.mk.injEq]at bM;obtain⟨df,dh,di⟩:=bM;replace cR:=zh cR;replace df:=zh df;replace dh:=zh dh;replace di:=zh di;obtain⟨i1,cT,bM⟩:=Option.map_eq_some_iff.1 Vw;simp only[Prod.mk.injEq]at bM;obtain⟨dc,dd,de⟩:=bM;replace cT:=zh cT;replace dc:=zh dc;replace dd:=zh dd;replace de:=zh de;have cj:=zh cV;rw[cV];clear cV;have dy:Hid (SyM wz wz.heap.size (.slice none 0 0) []):=SyM.start _ _;have dN:Hid (Value.int .i64 0=.int .i64 ((CZ s.ps.length (Ad s) (toN F) 0).flatten.length:Nat)):=rfl
        go_loopw [14,15,65] (fun vx rx ix wr=>∃(t:Nat) (Es:List Ent) (Ay:Option Addr) (cy:Nat),t<=(As s.ps.length (Ad s)).length/\ix=.int .i64 (t:Int)/\rx=.int .i64 ((CZ s.ps.length (Ad s) (toN F) t).flatten.length:Nat)/\vx=.slice Ay Es.length cy/\Hid (Es.map Ent.u=G6 s.ps.length (Ad s) (toN F) t)/\Hid (SyM wr wz.heap.size (.slice Ay Es.length cy) Es)/\Hid (∀u,u∈CZ s.ps.length (Ad s) (toN F) t->u.length<=8)/\Hid (Below wz.heap.size wz wr)) (fun _ _ ix _=>(As s.ps.length (Ad s)).length-(intOf ix).toNat)
        case atStart=>exact⟨0,[],none,0,Nat.zero_le _,rfl,dN.out,rfl,rfl,dy,(fun u h=>by cases h),Below.refl _ _⟩
        case round =>
         clear dy dN;obtain⟨t,Es,Ay,cy,ht,rfl,rfl,rfl,bf,am,h8,av⟩:=hrel;obtain⟨wt,rfl⟩:∃z,z=wr:=⟨_,rfl⟩
         by_cases htl:t<(As s.ps.length (Ad s)).length
         · obtain ⟨eL,eM,rfl,en,aL⟩:=(Is dK.out av.out) (by rw[cj.out];omega);have cr:t<l.length:=by rw[cj.out];exact htl
           obtain⟨e1,aB,_⟩:=aL t cr;obtain⟨_,dL⟩:=P5 bS.out cr;rw[dL]at e1 aB;rw[List.length_map]at e1;obtain⟨cg,bT⟩:=cK.out t htl;have a8:=MY (E:=Ad s) (F:=toN F) htl;have aO:=zh (fun h=>St (F:=toN F) htl h);have aN:=zh (fun h=>P6 (F:=toN F) htl h);have aA:=zh (fun h=>Su (F:=toN F) htl h);have aZ:=Fe (E:=Ad s) (F:=toN F) htl;have dF:(CZ s.ps.length (Ad s) (toN F) (t+1)).flatten.length<=60:=by have h1:=Jv (n:=s.ps.length) (E:=Ad s) (F:=toN F) (t:=t+1);have h2:=Ih (F:=toN F) (Cl af.out);rw[CL]at h2;omega
           obtain⟨c,hc⟩:∃c,c=((As s.ps.length (Ad s))[t]):=⟨_,rfl⟩;rw[<-hc]at e1 aB cg bT a8 aO aN aA aZ;have a3:Hid ((unk (Ad s) (toN F) c).length<=8->∀u,u∈CZ s.ps.length (Ad s) (toN F) (t+1)->u.length<=8):=fun h u hu=>by rw[aZ,List.mem_append,List.mem_singleton]at hu;exact hu.elim (h8.out u) (fun e=>by rw[e];exact h)
           replace hc:=zh hc;replace aZ:=zh aZ;replace aB:=zh aB;replace bT:=zh bT;obtain⟨ah,cG⟩:∃x,x=l[t].1:=⟨_,rfl⟩;obtain⟨ch,cJ⟩:∃x,x=l[t].2.1:=⟨_,rfl⟩;rw[<-cG]at e1 aB;rw[<-cJ]at e1;replace cG:=zh cG;replace cJ:=zh cJ;clear aL dL;obtain⟨R0,ai⟩:∃x,x=(CZ s.ps.length (Ad s) (toN F) t).flatten.length:=⟨_,rfl⟩;obtain⟨R1,bk⟩:∃x,x=(CZ s.ps.length (Ad s) (toN F) (t+1)).flatten.length:=⟨_,rfl⟩;rw[<-ai,<-bk]at a8;rw[<-bk]at dF;rw[<-ai];have eJ:(0:Int)<=(t:Int):=by omega
           have eK:(t:Int)<((As s.ps.length (Ad s)).length:Int):=by omega
           obtain⟨xb,bL⟩:∃x,x=wt.heap.size:=⟨_,rfl⟩;obtain⟨wu,bK⟩:∃W,W=(wt.alloc (.cells #[.slice none 0 0,.slice none 0 0,.slice none 0 0] 75)):=⟨_,rfl⟩;have dq:Hid (Below wt.heap.size wt wu):=by rw[bK];exact(Below.refl _ wt).alloc (Nat.le_refl _) _
           have dr:Hid (EntB wu wt.heap.size xb none 0 []):=by rw[bK,bL];exact EntB.start (Bk.new wt _ _)
           have dT:Hid (wt.heap.size<=xb):=Nat.le_of_eq bL.symm
           go_wp2_with fail
           (try rw[<-bK])
           (try rw[<-bL])
           replace bK:=zh bK;replace bL:=zh bL;replace ai:=zh ai;replace bk:=zh bk;have cI:Hid (c.length<=60):=cg;have aP:Hid (t<(As s.ps.length (Ad s)).length):=htl;have b7:=zh (fun W (h:Below wt.heap.size wt W)=>(av.out.trans (h.mono av.out.size):Below wz.heap.size wz W))
           go_loopw [73] (fun jx wr=>∃(i:Nat) (A:Option Addr) (cu:Nat),i<=c.length/\jx=.int .i64 (i:Int)/\Hid (EntB wr wt.heap.size xb A cu (unk (Ad s) (toN F) (c.take i)))/\Hid (Below wt.heap.size wt wr)) (fun jx _=>c.length-(intOf jx).toNat)
           case atStart=>exact⟨0,none,0,Nat.zero_le _,rfl,dr,dq⟩
           case round =>
            clear dr dq;obtain⟨i,A,cu,hi,rfl,ag,au⟩:=hrel;obtain⟨wi,rfl⟩:∃z,z=wr:=⟨_,rfl⟩
            by_cases hil:i<c.length
            · obtain ⟨ey,eE,rfl,eo,aL⟩:=(aB.out.below au.out) (by rw[List.length_map];omega);have e1:=aL i (by rw[List.length_map];exact hil);rw[List.getElem_map]at e1;have b0:=bT.out _ (List.getElem_mem hil);have ay:=Sw (E:=Ad s) (F:=toN F) hil;have b3:(unk (Ad s) (toN F) (c.take i)).length<=60:=Nat.le_trans NX (by rw[List.length_take];omega);obtain⟨p,hp⟩:∃p,p=c[i]:=⟨_,rfl⟩;rw[<-hp]at e1 b0 ay;replace hp:=zh hp;clear aL;have co:=zh ((dO.out.below (b7.out _ au.out)));have r1:=co.out.cell p b0;have r9:=co.out.lt;have j0:(0:Int)<=(i:Int):=by omega
              have j1:(i:Int)<(c.length:Int):=by omega
              have q0:(0:Int)<=(p:Int):=by omega
              have q1:(p:Int)<(s.ps.length:Int):=by omega
              generalize rk (Ad s) (toN F) p=rv at r1 ay
              by_cases hrv:0<rv
              rotate_left
              · have t1:decide (0<rv)=false:=decide_eq_false hrv;rw[if_neg hrv,List.append_nil]at ay;have be:Hid (EntB wi wt.heap.size xb A cu (unk (Ad s) (toN F) (c.take (i+1)))):=by rw[ay];exact ag.out
                replace ay:=zh ay;replace hrv:=zh hrv;clear ag;go_wp2;exact⟨⟨i+1,A,cu,by omega,by go_num,be,au⟩,by simp only[intOf];omega⟩
              · have t1:decide (0<rv)=true:=decide_eq_true hrv;rw[if_pos hrv]at ay;replace hrv:=zh hrv;obtain⟨m,hm⟩:∃m,m=(unk (Ad s) (toN F) (c.take i)).length:=⟨_,rfl⟩;have x0:=ag.out.x.c0;have x9:=ag.out.x.lt;rw[<-hm]at x0 b3;have bP:Hid (EntB (wi.alloc (.cells #[.int .i64 (p:Int)] 3)) wt.heap.size xb A cu (unk (Ad s) (toN F) (c.take i))):=ag.out.below ((Below.refl _ wi).alloc (Nat.le_refl _) _);have dZ:Hid (Below wt.heap.size wt (wi.alloc (.cells #[.int .i64 (p:Int)] 3))):=au.out.alloc au.out.size _;have had:Hid (∀j u,[Value.int .i64 (p:Int)][j]? = some u->(wi.alloc (.cells #[.int .i64 (p:Int)] 3)).cell? (Addr.add ⟨wi.heap.size,0,none⟩ j)=some u):=Ci.Cx wi _ 3;have dP:Hid ((wi.alloc (.cells #[.int .i64 (p:Int)] 3)).ownsRow wt.heap.size 3 1 (.slice A m cu) m (BW (unk (Ad s) (toN F) (c.take i)))):=by have h:=bP.out.o;rw[<-hm]at h;exact h
                have dD:Hid (wt.heap.size<=(wi.alloc (.cells #[.int .i64 (p:Int)] 3)).heap.size):=dZ.out.size;have ct:=zh b3
                have eh:Hid (∀v' w',w'.ownsRow wt.heap.size 3 1 v' (m+1) (BW (unk (Ad s) (toN F) (c.take i))++[.int .i64 (p:Int)])->(wi.alloc (.cells #[.int .i64 (p:Int)] 3)).grownBy w' (Value.slice A m cu).ownBlock->(v'.ownBlock=(Value.slice A m cu).ownBlock∨v'.ownBlock=some (wi.alloc (.cells #[.int .i64 (p:Int)] 3)).heap.size)->∃A' c',v'=.slice A' (m+1) c'/\EntB (w'.setCell ⟨xb,0,none⟩ v') wt.heap.size xb A' c' (unk (Ad s) (toN F) (c.take (i+1)))/\Bk w' xb 75 [.slice A m cu,.slice none 0 0,.slice none 0 0]/\Below wt.heap.size wt w'):=fun v' w' h1 h2 h3=>by
                 rw[hm]at h1 h2 h3;obtain⟨A',c',q1,q2,q3⟩:=bP.out.step h1 h2 h3;rw[ay,hm];refine⟨A',c',q1,q2,q3,?_⟩;exact((Kp.refl [] wi).alloc (.cells #[.int .i64 (p:Int)] 3)).to_below au.out (fun x hx=>by simp at hx) |>.trans ⟨h2.os,h2.tape,h2.output,h2.size,fun k hk=>h2.block k (Nat.lt_of_lt_of_le hk dD.out) fun e=>by have:=(bP.out.o.lt k e.symm).1;omega⟩
                replace hm:=zh hm;replace ay:=zh ay;clear ag bP
                go_wp2_with (at_builtin;refine Ci.wpList_append_new _ rfl _ _ 26 rfl wt.heap.size 3 i0 (.int .i64 0) 1 8 Tryz.underlying26 cR.out df.out dh.out di.out rfl (by decide) (.slice A m cu) m (BW (unk (Ad s) (toN F) (c.take i))) rfl dP.out ⟨wi.heap.size,0,none⟩ 1 1 [.int .i64 (p:Int)] rfl rfl had.out (Ci.Bg _ rfl) (by decide) (by have:=ct.out;unfold maxLen;omega) (by have:=ct.out;omega) dD.out ?_;intro v' w' ho hg hn;obtain⟨A',c',da,be,b4,aJ⟩:=eh.out v' w' ho hg hn;replace be:=zh be;replace aJ:=zh aJ;have z0:=b4.frozen 0;have z1:=b4.c0;have z9:=b4.lt;clear ho hg hn b4 x0 x9;subst da)
                exact⟨⟨i+1,A',c',by omega,by go_num,be,((Kp.refl [xb] _).set _ (.inl (by simp))).to_below aJ.out (fun x hx=>by have:=dT.out;simp at hx;omega)⟩,by simp only[intOf];omega⟩
            · obtain rfl:i=c.length:=by omega
              rw[List.take_length]at ag;have b3:(unk (Ad s) (toN F) c).length<=60:=Nat.le_trans NX cI.out;have b8:=zh (b7.out _ au.out);have cd:=zh (am.out.below au.out);obtain⟨u,hu⟩:∃u,u=unk (Ad s) (toN F) c:=⟨_,rfl⟩;rw[<-hu]at ag b3 a8 a3 aO aN aA;replace hu:=zh hu;have x0:=ag.out.x.c0;have x9:=ag.out.x.lt;have bx:Hid (Value.int .i64 ((R0:Int)+(u.length:Int))=.int .i64 ((CZ s.ps.length (Ad s) (toN F) (t+1)).flatten.length:Nat)):=by rw[<-bk.out,a8];go_num
              have em:R0+u.length<=60:=by omega
              replace a8:=zh a8
              by_cases bD:u=[]
              · subst bD;have bg:Hid (Es.map Ent.u=G6 s.ps.length (Ad s) (toN F) (t+1)):=by rw[aO.out rfl];exact bf.out
                have cw:=zh (a3.out (by simp));simp only[List.length_nil]at x0 bx;clear aO aN aA a3 ag;go_wp2;exact⟨⟨t+1,Es,Ay,cy,aP.out,by go_num,bx.out,rfl,bg,cd,cw,b8⟩,by have:=aP.out;simp only[intOf];omega⟩
              · have eH:0<u.length:=by cases u with | nil=>exact absurd rfl bD | cons _ _=>simp
                have m2:((u.length:Int)==0)=false:=by rw[beq_eq_false_iff_ne];omega
                have dM:=zh (aN.out bD);replace bD:=zh bD;clear aO aN;have aR:Hid (Below w.heap.size w wi):=ba.out.trans (b8.out.mono ba.out.size)
                by_cases hu8:8<u.length
                · have m3:decide (8<(u.length:Int))=true:=decide_eq_true (by omega);have br:=zh (aA.out hu8);replace hu8:=zh hu8;clear aA a3 ag;go_wp2;rw[Exit.noGoto_ret];go_ret2;exact bj.out _ _ bZ.out br.out rfl aR.out
                · have m3:decide (8<(u.length:Int))=false:=decide_eq_false (by omega);have cw:=zh (a3.out (by omega));have cM:Es.length<=60:=by have h1:=congrArg List.length bf.out;have h2:=Lq (n:=s.ps.length) (E:=Ad s) (F:=toN F) (t:=t);rw[List.length_map]at h1;have:=aP.out;omega
                  obtain⟨q,hq⟩:∃q,q=Es.length:=⟨_,rfl⟩;have bR:Hid (Below wt.heap.size wt (wi.alloc (.cells #[.pointer (some ⟨xb,0,none⟩)] 72))):=au.out.alloc au.out.size _;have bv:Hid ((wi.alloc (.cells #[.pointer (some ⟨xb,0,none⟩)] 72)).ownsRow wz.heap.size 72 1 (.slice Ay q cy) q (Es.map Ent.pt)):=by rw[hq];exact AR am.out.row bR.out
                  have dB:Hid (∀j u,[Value.pointer (some ⟨xb,0,none⟩)][j]? = some u->(wi.alloc (.cells #[.pointer (some ⟨xb,0,none⟩)] 72)).cell? (Addr.add ⟨wi.heap.size,0,none⟩ j)=some u):=Ci.Cx wi _ 72;have ce:Hid (wz.heap.size<=(wi.alloc (.cells #[.pointer (some ⟨xb,0,none⟩)] 72)).heap.size):=Nat.le_trans av.out.size bR.out.size
                  have dR:Hid (∀v' w',w'.ownsRow wz.heap.size 72 1 v' (q+1) (Es.map Ent.pt++[.pointer (some ⟨xb,0,none⟩)])->(wi.alloc (.cells #[.pointer (some ⟨xb,0,none⟩)] 72)).grownBy w' (Value.slice Ay q cy).ownBlock->(v'.ownBlock=(Value.slice Ay q cy).ownBlock∨v'.ownBlock=some (wi.alloc (.cells #[.pointer (some ⟨xb,0,none⟩)] 72)).heap.size)->∃Ay' cy',v'=.slice Ay' (q+1) cy'/\SyM w' wz.heap.size (.slice Ay' (Es++[(⟨xb,A,cu,u⟩:Ent)]).length cy') (Es++[(⟨xb,A,cu,u⟩:Ent)])/\Below wz.heap.size wz w'):=fun v' w' h1 h2 h3=>by
                   obtain⟨Ay',cy',rfl⟩:=Ci.EH h1;refine⟨Ay',cy',rfl,?_,?_⟩
                   · have hl:(Es++[(⟨xb,A,cu,u⟩:Ent)]).length=q+1:=by rw[List.length_append,hq];rfl
                     rw[hl];have cz:=ag.out.below ((Below.refl _ wi).alloc (Nat.le_refl _) (.cells #[.pointer (some ⟨xb,0,none⟩)] 72));rw[hq]at h1 h2 h3 ⊢;refine SyM.add (e:=⟨xb,A,cu,u⟩) am.out av.out.size bR.out cz.x cz.inInt dT.out (fun b o e=>cz.blk b o e) ?_ h2 (h3.imp id fun e=>⟨_,e,Nat.le_refl _⟩);exact h1
                   · exact av.out.trans (bR.out.mono av.out.size) |>.trans ⟨h2.os,h2.tape,h2.output,h2.size,fun k hk=>h2.block k (Nat.lt_of_lt_of_le hk ce.out) fun e=>by have:=(bv.out.lt k e.symm).1;omega⟩
                  have bg:Hid ((Es++[(⟨xb,A,cu,u⟩:Ent)]).map Ent.u=G6 s.ps.length (Ad s) (toN F) (t+1)):=by rw[dM.out,List.map_append,bf.out];rfl
                  have eg:Hid ((Es++[(⟨xb,A,cu,u⟩:Ent)]).length=q+1):=by rw[List.length_append,hq];rfl
                  have ci:Hid (q<=60):=by rw[hq];exact cM
                  rw[<-hq];replace hq:=zh hq;replace cM:=zh cM;clear dM aA a3 ag cd
                  go_wp2_with (at_builtin;refine Ci.wpList_append_new _ rfl _ _ 71 rfl wz.heap.size 72 i1 (.pointer none) 1 8 Tryz.underlying71 cT.out dc.out dd.out de.out rfl (by decide) (.slice Ay q cy) q (Es.map Ent.pt) rfl bv.out ⟨wi.heap.size,0,none⟩ 1 1 [.pointer (some ⟨xb,0,none⟩)] rfl rfl dB.out (Ci.Bg _ rfl) (by decide) (by have:=ci.out;unfold maxLen;omega) (by have:=ci.out;omega) ce.out ?_;intro v' w' ho hg hn;obtain⟨Ay',cy',da,cC,cx⟩:=dR.out v' w' ho hg hn;replace cC:=zh cC;replace cx:=zh cx;clear ho hg hn x0 x9;subst da)
                  exact⟨⟨t+1,Es++[(⟨xb,A,cu,u⟩:Ent)],Ay',cy',aP.out,by go_num,bx.out,by rw[eg.out],bg,cC,cw,cx⟩,by have:=aP.out;simp only[intOf];omega⟩
         · obtain rfl:t=(As s.ps.length (Ad s)).length:=by omega
           have aR:Hid (Below w.heap.size w wt):=ba.out.trans (av.out.mono ba.out.size);have aV:Hid (Es.map Ent.u=GO s.ps.length (Ad s) (toN F)):=bf.out.trans Ss;obtain⟨R0,ai⟩:∃x,x=(CZ s.ps.length (Ad s) (toN F) (As s.ps.length (Ad s)).length).flatten.length:=⟨_,rfl⟩;rw[<-ai];have el:R0<=60:=by have h1:=Jv (n:=s.ps.length) (E:=Ad s) (F:=toN F) (t:=(As s.ps.length (Ad s)).length);have h2:=Ih (F:=toN F) (Cl af.out);rw[CL]at h2;omega
           by_cases h16:16<R0
           · have m3:decide (16<(R0:Int))=true:=decide_eq_true (by omega);have br:=zh (Sv (n:=s.ps.length) (E:=Ad s) (F:=toN F) (by rw[<-ai];exact h16));replace h16:=zh h16;replace ai:=zh ai;go_wp2;rw[Exit.noGoto_ret];go_ret2;exact bj.out _ _ bZ.out br.out rfl aR.out
           · have m3:decide (16<(R0:Int))=false:=decide_eq_false (by omega);have dE:=zh (Ui (n:=s.ps.length) (E:=Ad s) (F:=toN F) (by rw[<-ai];omega) h8.out);have bA:(GO s.ps.length (Ad s) (toN F)).flatten.length<=16:=by unfold GO;rw[EL,<-EN,<-ai];omega
             replace bA:=zh bA;have ek:Es.length<=60:=by have h1:=congrArg List.length bf.out;have h2:=Lq (n:=s.ps.length) (E:=Ad s) (F:=toN F) (t:=(As s.ps.length (Ad s)).length);rw[List.length_map]at h1;omega
             replace h16:=zh h16;replace ai:=zh ai
             go_wp2_with fail
             have aS:=zh (Cl af.out);have bm:=Lr (F:=toN F) (Cl af.out);rw[CL,<-aV.out]at bm;have dx:=zh bm;clear bm;have aq:(Es.map Ent.u).flatten.length<=16:=by rw[aV.out];exact bA.out
             replace aq:=zh aq;have dz:=aT.out.below av.out;have cA:F.length=(toN F).length:=by simp[toN]
             have aW:VMC wt vb mb s.ps.length (DI (Ae s.cap) (toN F) (Es.map Ent.u) 0) (F.length+((Es.map Ent.u).take 0).flatten.length):=by have h:=dz.congr (val':=DI (Ae s.cap) (toN F) (Es.map Ent.u) 0) (fun p _=>by rw[<-Sr (L:=Ae s.cap) (us:=(Es.map Ent.u)),cA]);simpa using h
             replace aW:=zh aW;clear dz;replace cA:=zh cA;have dA:=zh (d9.out.below av.out);have dw:Hid (Kp (mb::(Es.take 0).map Ent.x) wt wt):=Kp.refl _ _
             go_loopw [123] (fun ix wr=>∃(k:Nat),k<=Es.length/\ix=.int .i64 (k:Int)/\Hid (Kp (mb::(Es.take k).map Ent.x) wt wr)/\Hid (VMC wr vb mb s.ps.length (DI (Ae s.cap) (toN F) (Es.map Ent.u) k) (F.length+((Es.map Ent.u).take k).flatten.length))) (fun ix _=>Es.length-(intOf ix).toNat)
             case atStart=>exact⟨0,Nat.zero_le _,rfl,dw,aW⟩
             case round =>
              clear dw aW;obtain⟨k,hk,rfl,al,aj⟩:=hrel;obtain⟨aa,rfl⟩:∃z,z=wr:=⟨_,rfl⟩
              by_cases hkl:k<Es.length
              · obtain ⟨e,he⟩:∃e,e=Es[k]:=⟨_,rfl⟩;have aC:e∈Es:=by rw[he];exact List.getElem_mem hkl
                obtain⟨cP,cL,eA⟩:=am.out.ent e aC;have bY:=Uj am.out.nd hkl;rw[<-he]at bY;have a9:(Es.map Ent.u)[k]'(by rw[List.length_map];exact hkl)=e.u:=by rw[List.getElem_map,<-he]
                have bG:=P8 bU.out (u:=e.u) (by rw[<-aV.out];exact List.mem_map_of_mem aC);have bF:=h8.out _ bG.2;have bu:=MX dx.out (k:=k) (by rw[List.length_map];exact hkl);rw[a9]at bu;obtain⟨D,hD,aM⟩:=P0 aS.out dx.out aq.out k;have ar:=aM.vals hD;have eb:=Pz (us:=(Es.map Ent.u)) (k:=k) (by rw[List.length_map];exact hkl);rw[a9]at eb;have eG:=aq.out;have aI:e.x≠mb/\e.x≠vb:=by have:=db.out;omega
                have bt:e.x∉mb::(Es.take k).map Ent.x:=fun h=>(List.mem_cons.1 h).elim aI.1 bY;have ez:Hid (Below w.heap.size w wt):=aR;have a2:Hid (∀x,x∈mb::(Es.take k).map Ent.x->w4.heap.size<=x):=fun x hx=>(List.mem_cons.1 hx).elim (fun h=>by rw[h];exact Nat.le_of_eq aY.out.1.symm) (fun h=>by obtain⟨e2,aH,rfl⟩:=List.mem_map.1 h;have h1:=(am.out.ent e2 (List.mem_of_mem_take aH)).2.2;have h2:=an.out.size;omega);have aE:Hid (Below w.heap.size w aa):=al.out.to_below aR.out (fun x hx=>by have h1:=a2.out x hx;have h2:=bN.out.size;omega);have dU:Hid (Bk aa e.x 75 [.slice e.A e.u.length e.c,.slice none 0 0,.slice none 0 0]):=cP.kp al.out bt;have eI:w.heap.size<=e.x:=by have h1:=aR.out.size;have h2:=ba.out.size;omega
                have bE:Hid (∀b o,e.A=some ⟨b,o,none⟩->b∉mb::(Es.take k).map Ent.x/\b≠e.x/\b≠mb):=fun b o h=>by
                 obtain⟨h1,h2,h3⟩:=am.out.blk e aC b o h;have hb:b≠mb:=by have:=db.out.1;omega
                 refine⟨fun hm=>(List.mem_cons.1 hm).elim hb fun h=>?_,h3 e aC,hb⟩;obtain⟨e2,aH,rfl⟩:=List.mem_map.1 h;exact h3 e2 (List.mem_of_mem_take aH) rfl
                have cU:Hid (InInt aa e.A (e.u.map fun(q:Nat)=>(q:Int))):=inInt_kp cL al.out (fun b o h=>(bE.out b o h).1);have aG:Hid (Bk aa w.heap.size 25 (SC s Ap Ac Av cp cc cv)):=dA.out.kp al.out (fun h=>(List.mem_cons.1 h).elim (fun h=>by have h1:=aY.out.1;have h2:=bJ.out;omega) (fun h=>by obtain⟨e2,aH,q⟩:=List.mem_map.1 h;have h1:=(am.out.ent e2 (List.mem_of_mem_take aH)).2.2;have h2:=bJ.out;have h3:=an.out.size;omega));obtain⟨val,a1⟩:∃v,v=DI (Ae s.cap) (toN F) (Es.map Ent.u) k:=⟨_,rfl⟩;rw[<-a1]at aj aM ar;obtain⟨C0,bO⟩:∃c,c=F.length+((Es.map Ent.u).take k).flatten.length:=⟨_,rfl⟩;rw[<-bO]at aj;have eu:C0+e.u.length<=100000:=by omega
                have kB:=Pr (D:=D) s Ap Ac Av e.A cp cc cv e.c e.u val e.x vb mb aa af.out cH bF bu.nodup bG.1 ar dU.out (fun W h=>hE.out.below (h.to_below aE.out (fun x hx=>by simp at hx;omega))) (fun W h=>(c8.out W (h.to_below aE.out (fun x hx=>by simp at hx;omega))).cap) (fun W h=>inInt_kp cU.out h (fun b o q=>by have:=(bE.out b o q).2.1;simpa using this)) (fun W h=>(aj.out.kp h (by have:=aI.2;simp;omega) (by have:=aI.1;simp;omega)).vm (by omega));obtain⟨gy,et,ec,eC,eD,_,dG⟩:=Nt.EH (NP am.out.row al.out (fun b q hm=>(List.mem_cons.1 hm).elim (fun h=>by have h1:=(am.out.row.lt b q).1;have h2:=db.out.1;omega) (fun h=>by obtain⟨e2,aH,h3⟩:=List.mem_map.1 h;exact(am.out.rb b q e2 (List.mem_of_mem_take aH)).1 h3.symm))) (by omega:0<Es.length);injection ec with q1 _ q2;subst q1;subst q2;have e1:aa.cell? ⟨gy,k,none⟩=some (.pointer (some ⟨e.x,0,none⟩)):=dG k _ (by rw[List.getElem?_map,List.getElem?_eq_getElem hkl,<-he];rfl);have j0:(0:Int)<=(k:Int):=by omega
                have j1:(k:Int)<(Es.length:Int):=by omega
                have cW:Hid (((Es.map Ent.u).take k).flatten.length+e.u.length<=16):=by unfold Hid;omega
                have aX:=zh hkl;replace kB:=zh kB;replace aM:=zh aM;replace bu:=zh bu;replace ar:=zh ar;replace bG:=zh bG;replace he:=zh he;replace a9:=zh a9;replace a1:=zh a1;replace bO:=zh bO;replace aC:=zh aC;replace cP:=zh cP;replace cL:=zh cL;replace bY:=zh bY;replace bt:=zh bt;replace aI:=zh aI;replace hD:=zh hD;clear dG;have u0:=aG.out.c0;have u1:=aG.out.c1;have u2:=aG.out.c2;have u9:=aG.out.lt
                go_wp2_with fail
                refine kB.out.mono ?_;rintro ex W5 ⟨rfl,w3,dI,dC⟩;obtain⟨Aa,Ab,ca,cb,la,dJ,az,ed,cq,bw⟩:=dC.slv aS.out ar.out bF;have bi:Hid (Kp [e.x] aa W5):=kp_trans dI dJ (fun y hy=>.inl hy);replace az:=zh az;clear dI dJ dC kB u0 u1 u2 u9 e1;have aK:Hid (Below w.heap.size w W5):=bi.out.to_below aE.out (fun x hx=>by simp at hx;omega);have bo:=zh (aj.out.kp bi.out (by have:=aI.out.2;simp;omega) (by have:=aI.out.1;simp;omega));have dt:=zh (inInt_kp cU.out bi.out (fun b o q=>by have:=(bE.out b o q).2.1;simpa using this));have kV:Hid (∀W,Below W5.heap.size W5 W->Calls Tryz.prog 56 #[.slice Aa e.u.length ca,.slice Ab e.u.length cb] W fun e1 w1=>(∃p c,e1=.returned (.tuple #[.slice p e.u.length c,.int .i64 0])/\InRow w1 p (AN e.u.length fun i=>C5 SQ (Ae s.cap) e.u val (e.u.getD i 0)))/\Below W.heap.size W w1):=fun W h=>TV aS.out aM.out bu.out cW.out bF (hE.out.below (aK.out.trans (h.mono aK.out.size))) ed (cq.below h) bw;have bd:Hid (Below W5.heap.size W5 W5.drew):=(Below.refl _ _).drew;have cB:Hid (∀W,Below W5.heap.size W5 W->W.cell? ⟨e.x,1,none⟩=some (.slice Aa e.u.length ca)/\W.cell? ⟨e.x,2,none⟩=some (.slice Ab e.u.length cb)):=fun W h=>⟨(az.out.below h).c1,(az.out.below h).c2⟩;clear cq bw dU cU aj;have x1:=az.out.c1;have x2:=az.out.c2;have x9:=az.out.lt
                go_wp2_with fail
                go_region_held3 (fun W=>W.cell? ⟨e.x,1,none⟩=some (.slice Aa e.u.length ca)/\W.cell? ⟨e.x,2,none⟩=some (.slice Ab e.u.length cb)) (first | (with_reducible exact cB.out _ bd.out) | (with_reducible exact cB.out _ a6.out) | go_keep) (first | (go_at_call 56;refine(kV.out _ bd.out).mono ?_;rintro ex w8 ⟨⟨pS,cS,rfl,bC⟩,hb⟩;have a6:=zh (bd.out.trans (hb.mono bd.out.size));replace bC:=zh bC;clear hb))
                have cD:Hid (VMC w8 vb mb s.ps.length (Iq (Ae s.cap) e.u val 0) (C0+0)):=by rw[Sp];exact bo.out.below a6.out
                have d8:Hid (∀b o x,w8.cell? ⟨b,o,none⟩=some x->b≠mb):=fun b o x h=>cD.out.off h;have ei:=zh (az.out.below a6.out);have d0:=zh (dt.out.below a6.out);have ej:Hid (Below w.heap.size w w8):=aK.out.trans (a6.out.mono aK.out.size);have d1:Hid (Kp [e.x] aa w8):=bi.out.below a6.out;have es:=zh az.out.lt;clear bo dt az cB bd kV bi aK x1 x2 x9;have du:Hid (Kp [mb] w8 w8):=Kp.refl _ _
                go_wp2_with fail
                go_loopw [145] (fun jx wr=>∃(i:Nat),i<=e.u.length/\jx=.int .i64 (i:Int)/\Hid (Kp [mb] w8 wr)/\Hid (VMC wr vb mb s.ps.length (Iq (Ae s.cap) e.u val i) (C0+i))) (fun jx _=>e.u.length-(intOf jx).toNat)
                case atStart=>exact⟨0,Nat.zero_le _,rfl,du,cD⟩
                case round =>
                 clear du cD;obtain⟨i,hi,rfl,aw,bq⟩:=hrel;obtain⟨aU,rfl⟩:∃z,z=wr:=⟨_,rfl⟩
                 by_cases hil:i<e.u.length
                 · obtain⟨sb,so,d6,b2,dQ⟩:=bC.out (by rw[Ag];omega);subst d6;obtain⟨t1,t2,t3⟩:=dQ i (by rw[Ag];exact hil);rw[BB]at t1 t2 t3;rw[D3 hil]at t1 t2 t3;have bB:sb≠mb:=d8.out sb _ _ t1;have t1:=(World.cell?_of_block (a:=⟨sb,so+i*3,none⟩) (aw.out.block sb b2 (by simpa using bB))).trans t1;have t2:=(World.cell?_of_block (a:=⟨sb,so+i*3+1,none⟩) (aw.out.block sb b2 (by simpa using bB))).trans t2;have t3:=(World.cell?_of_block (a:=⟨sb,so+i*3+2,none⟩) (aw.out.block sb b2 (by simpa using bB))).trans t3;have t9:sb<aU.heap.size:=Nat.lt_of_lt_of_le b2 aw.out.size;obtain⟨ub,uo,bQ,a0,dS⟩:=(inInt_kp d0.out aw.out (fun b o q=>by have:=(bE.out b o q).2.2;simpa using this)) (by rw[List.length_map];omega);have c9:ub≠mb:=(bE.out ub uo bQ).2.2;have e1:=dS i (by rw[List.length_map];exact hil);rw[List.getElem_map]at e1;have b0:=bG.out.1 _ (List.getElem_mem hil);have bs:=Sq (L:=Ae s.cap) (val:=val) hil;obtain⟨p,hp⟩:∃p,p=e.u[i]:=⟨_,rfl⟩;rw[<-hp]at e1 b0 bs t1 t2 t3;replace hp:=zh hp;clear dS dQ;replace bs:=zh bs;replace bQ:=zh bQ;replace bB:=zh bB;replace c9:=zh c9;replace e1:=zh e1;replace a0:=zh a0;have j0:(0:Int)<=(i:Int):=by omega
                   have j1:(i:Int)<(e.u.length:Int):=by omega
                   obtain⟨q,hq⟩:∃q,q=C5 SQ (Ae s.cap) e.u val p:=⟨_,rfl⟩;rw[<-hq]at t1 t2 t3 bs;replace hq:=zh hq
                   go_wp2_with fail
                   have b5:=ei.out.kp aw.out (by have:=aI.out.1;simpa using this);rw[bQ.out]at b5;refine Wy vb mb s.ps.length (C0+i) p e.x ub uo e.u.length e.c i aU.heap.size q (Iq (Ae s.cap) e.u val i) (aU.alloc (.cells #[.bool (rq (q)).1,.string (rq (q)).2.1,.string (rq (q)).2.2] 40)) (bq.out.below ((Below.refl _ _).alloc (Nat.le_refl _) _)) (by omega) (by omega) hil ((b5.alloc _).c0) ((b5.alloc _).lt) ((World.cell?_of_block (a:=⟨ub,uo+i,none⟩) (heap_alloc_old aU _ a0.out)).trans e1.out) (Nat.lt_trans a0.out (by simp)) (Bk.new aU _ _) aI.out.1 c9.out (by have:=bq.out.lt;omega) ?_;intro _ _ _ _ _ _ _ _ _ we bp aF;have d2:Hid (Kp [mb] w8 we):=kp_trans (aw.out.alloc _) aF.out (fun y hy=>.inl hy);have cE:Hid (VMC we vb mb s.ps.length (Iq (Ae s.cap) e.u val (i+1)) (C0+(i+1))):=bp.out.congr fun x _=>(bs.out x).symm;clear bp aF aw bq t1 t2 t3 t9 b5;go_wp2;exact⟨⟨i+1,by omega,by go_num,d2,cE⟩,by simp only[intOf];omega⟩
                 · obtain rfl:i=e.u.length:=by omega
                   have d3:Hid (Kp (mb::(Es.take (k+1)).map Ent.x) wt aU):=by
                    have hm:∀y,y∈(Es.take (k+1)).map Ent.x↔y∈(Es.take k).map Ent.x∨y=e.x:=fun y=>by rw[List.take_succ_eq_append_getElem aX.out,<-he.out,List.map_append,List.mem_append];simp
                    have h1:Kp (mb::(Es.take (k+1)).map Ent.x) wt aa:=⟨al.out.os,al.out.tape,al.out.output,al.out.size,fun b hb hx=>al.out.block b hb fun h=>hx ((List.mem_cons.1 h).elim (fun h=>List.mem_cons.2 (.inl h)) (fun h=>List.mem_cons.2 (.inr ((hm b).2 (.inl h)))))⟩;exact kp_trans (kp_trans h1 d1.out (fun y hy=>.inl (List.mem_cons.2 (.inr ((hm y).2 (.inr (by simpa using hy))))))) aw.out (fun y hy=>.inl (List.mem_cons.2 (.inl (by simpa using hy))))
                   have d7:Hid (VMC aU vb mb s.ps.length (DI (Ae s.cap) (toN F) (Es.map Ent.u) (k+1)) (F.length+((Es.map Ent.u).take (k+1)).flatten.length)):=by
                    have h:=bq.out;rw[Uh]at h;have e1:DI (Ae s.cap) (toN F) (Es.map Ent.u) (k+1)=C5 SQ (Ae s.cap) e.u val:=by rw[MW (by rw[List.length_map];exact aX.out),a9.out,<-a1.out]
                    have e2:F.length+((Es.map Ent.u).take (k+1)).flatten.length=C0+e.u.length:=by rw[bO.out,List.take_succ_eq_append_getElem (by rw[List.length_map];exact aX.out:k<(Es.map Ent.u).length),a9.out,List.flatten_append,List.length_append,List.flatten_singleton,Nat.add_assoc]
                    rw[e1,e2];exact h
                   have dH:Hid (k+1<=Es.length):=aX.out;clear aw bq;go_wp2;exact⟨⟨k+1,dH.out,by go_num,d3,d7⟩,by have:=dH.out;simp only[intOf];omega⟩
              · obtain rfl:k=Es.length:=by omega
                have ck:((Es.map Ent.u).take Es.length).flatten.length<=16:=by have h:=congrArg (fun l=>(List.flatten l).length) (List.take_append_drop Es.length (Es.map Ent.u));simp only[List.flatten_append,List.length_append]at h;have:=aq.out;omega
                have aF:DI (Ae s.cap) (toN F) (Es.map Ent.u) Es.length=KW SQ s.ps.length (Ae s.cap) (toN F):=by unfold DI KW;rw[CL,<-aV.out,List.take_of_length_le (by rw[List.length_map];exact Nat.le_refl _)]
                have aT:=aj.out.vm (by omega);rw[aF]at aT;replace aT:=zh aT;replace aF:=zh aF;replace ck:=zh ck;have a2:Hid (∀x,x∈mb::(Es.take Es.length).map Ent.x->w4.heap.size<=x):=fun x hx=>(List.mem_cons.1 hx).elim (fun h=>by rw[h];exact Nat.le_of_eq aY.out.1.symm) (fun h=>by obtain⟨e2,aH,rfl⟩:=List.mem_map.1 h;have h1:=(am.out.ent e2 (List.mem_of_mem_take aH)).2.2;have h2:=an.out.size;omega);have aE:Hid (Below w.heap.size w aa):=al.out.to_below aR.out (fun x hx=>by have h1:=a2.out x hx;have h2:=bN.out.size;omega);have aG:Hid (Bk aa w.heap.size 25 (SC s Ap Ac Av cp cc cv)):=dA.out.kp al.out (fun h=>by have h1:=a2.out _ h;have h2:=bJ.out;omega);obtain⟨ev,cN⟩:∃ev,ev=KW SQ s.ps.length (Ae s.cap) (toN F):=⟨_,rfl⟩;rw[<-cN]at aT bh;replace cN:=zh cN;have ee:=F8 27 Tryz.underlying27 s.ps.length (by omega);have kva:Hid (∀W (p:Nat),p<s.ps.length->Below aa.heap.size aa W->Calls Tryz.prog 54 #[.int .i64 (p:Int),.pointer (some ⟨vb,0,none⟩)] W fun e w'=>e=.returned (.agg #[.bool (rq (ev p)).1,.string (rq (ev p)).2.1,.string (rq (ev p)).2.2])/\Below W.heap.size W w'):=fun W p hp h=>Jh s.ps.length ev vb mb p hp (by omega) W (hE.out.below (aE.out.trans (h.mono aE.out.size))) (aT.out.below h);obtain⟨ob,a7⟩:∃x,x=aa.heap.size:=⟨_,rfl⟩;obtain⟨dV,aQ⟩:∃W,W=(aa.alloc (.cells (AF s.ps.length fun _=>zraw).toArray 40)):=⟨_,rfl⟩;have b6:Hid (Below aa.heap.size aa dV):=by rw[aQ];exact(Below.refl _ aa).alloc (Nat.le_refl _) _
                have b9:Hid (RowB dV ob s.ps.length fun j=>if j<0 then rq (ev j) else zraw):=by rw[aQ,a7];refine RowB.congr (r:=fun _=>zraw) (heap_alloc_new aa _) fun j _=>?_;rw[if_neg (Nat.not_lt_zero _)]
                have u0:=aG.out.c0;have u1:=aG.out.c1;have u2:=aG.out.c2;have u9:=aG.out.lt
                go_wp2_with fail
                (try rw[<-aQ])
                (try rw[<-a7])
                replace aQ:=zh aQ;replace a7:=zh a7;clear ee u0 u1 u2 u9
                go_loopw [167] (fun ix wr=>∃(k:Nat),k<=s.ps.length/\ix=.int .i64 (k:Int)/\Hid (Below aa.heap.size aa wr)/\Hid (RowB wr ob s.ps.length fun j=>if j<k then rq (ev j) else zraw)) (fun ix _=>s.ps.length-(intOf ix).toNat)
                case atStart=>exact⟨0,Nat.zero_le _,rfl,b6,b9⟩
                case round =>
                 clear b6 b9;obtain⟨k,hk,rfl,ao,bn⟩:=hrel;obtain⟨dj,rfl⟩:∃z,z=wr:=⟨_,rfl⟩
                 by_cases hkm:k<s.ps.length
                 · have k0:=zh (kva.out dj k hkm ao.out);have q0:(0:Int)<=(k:Int):=by omega
                   have q1:(k:Int)<(s.ps.length:Int):=by omega
                   go_wp2_with fail
                   refine k0.out.mono ?_;rintro e w6 ⟨rfl,hb⟩;have dl:Hid (Below aa.heap.size aa w6):=ao.out.trans (hb.mono ao.out.size);have a4:Hid (RowB w6 ob s.ps.length fun j=>if j<k then rq (ev j) else zraw):=bn.out.below hb bn.out.lt;clear hb k0 ao bn;obtain⟨r1,r2,r3⟩:=a4.out.cell hkm;have f1:=a4.out.frozen (k*3);have f2:=a4.out.frozen (k*3+1);have f3:=a4.out.frozen (k*3+2);have r9:=a4.out.lt;have bz:Hid (aa.heap.size<=ob):=Nat.le_of_eq a7.out.symm;have dW:Hid (Below aa.heap.size aa (((w6.setCell ⟨ob,k*3,none⟩ (.bool (rq (ev k)).1)).setCell ⟨ob,k*3+1,none⟩ (.string (rq (ev k)).2.1)).setCell ⟨ob,k*3+2,none⟩ (.string (rq (ev k)).2.2))):=((dl.out.setCell (p:=⟨ob,k*3,none⟩) bz.out _).setCell (p:=⟨ob,k*3+1,none⟩) bz.out _).setCell (p:=⟨ob,k*3+2,none⟩) bz.out _;have d4:Hid (RowB (((w6.setCell ⟨ob,k*3,none⟩ (.bool (rq (ev k)).1)).setCell ⟨ob,k*3+1,none⟩ (.string (rq (ev k)).2.1)).setCell ⟨ob,k*3+2,none⟩ (.string (rq (ev k)).2.2)) ob s.ps.length fun j=>if j<k+1 then rq (ev j) else zraw):=(a4.out.set hkm (rq (ev k))).congr fun j _=>by by_cases c:j=k;(· rw[if_pos c,if_pos (by omega),c]);(· rw[if_neg c];by_cases d:j<k;(· rw[if_pos d,if_pos (by omega)]);(· rw[if_neg d,if_neg (by omega)]))
                   generalize (if k<k then rq (ev k) else zraw)=rz at r1 r2 r3;go_wp2;exact⟨⟨k+1,by omega,by go_num,dW,d4⟩,by simp only[intOf];omega⟩
                 · obtain rfl:k=s.ps.length:=by omega
                   have d5:Hid (RowB dj ob s.ps.length fun j=>rq (ev j)):=bn.out.congr fun j hj=>by rw[if_pos hj]
                   have dY:Hid (Below w.heap.size w dj):=aE.out.trans (ao.out.mono aE.out.size);have bz:Hid (w.heap.size<=ob):=by rw[a7.out];exact aE.out.size
                   clear bn ao;go_wp2;rw[Exit.noGoto_ret];go_ret2;exact bh.out _ _ ob bZ.out dE.out rfl bz.out d5.out dY.out
end Sh
end
section
namespace Sh
open Nt Ci
def hL1:List Lp:=[(0,3,1/2),(1,0,1/2)]
def hL2:List Lp:=[(0,1,1/2),(0,3,1/2),(1,0,1/2)]
def hL3:List Lp:=[(0,1,1),(1,0,1)]
def hL4:List Lp:=[(0,3,1),(2,0,1/2),(2,1,1/2)]
theorem NH {e:Nat->Rat} (h:Eff 4 hL1 [3] e):e 0=6/12/\e 1=3/12/\e 2=0/\e 3=1:=by
 have h3:=h.listed 3 (by simp);have h0:=h.sum 0 (by omega) (by simp);have h1:=h.sum 1 (by omega) (by simp);have h2:=h.sum 2 (by omega) (by simp);simp[hL1,An]at h0 h1 h2;refine⟨?_,?_,?_,h3⟩<;>grind
end Sh
end
section
open Go.RowKit Go.Shelf
namespace Sh
open Nt Ci
noncomputable def ev (s:SR) (F:List Int):Nat->Rat:=KW SQ s.ps.length (Ae s.cap) (toN F)
theorem Vx {s:SR} {F:List Int} (a:At s=true) (h:BI s.ps.length (Ad s) (toN F)=false):Eff s.ps.length (Ae s.cap) (toN F) (ev s F):=by
 rw[<-CL]at h;exact RI (Cl a) ME (MJ h).2
theorem Ls {s:SR} (F:List Int) (a:At s=true) (hn:s.ps.length<=8):BI s.ps.length (Ad s) (toN F)=false:=by
 rw[<-CL];exact RP (Cl a) hn
theorem Sx (s:SR) (Ap Ac Av Af:Option Addr) (cp cc cv cf:Nat) (F:List Int) (w:World) (hE:Env w) (hs:StIn w s Ap Ac Av) (hn:s.ps.length<=8) (d:s.cap.length<=300) (hF:InInt w Af F) (a:F.length<=140737488355328) :
 Calls Tryz.prog 20 #[.agg #[.slice Ap s.ps.length cp,.slice Ac s.cap.length cc,.slice Av s.vot.length cv],.slice Af F.length cf] w fun e w' =>
  (if At s=true/\BK s.ps.length F=true then ∃b,e=.returned (.tuple #[.slice (some ⟨b,0,none⟩) s.ps.length s.ps.length,.int .i64 0])/\w.heap.size<=b/\RowB w' b s.ps.length fun p=>rq (ev s F p)
   else e=.returned (.tuple #[.slice none 0 0,.int .i64 1]))/\Below w.heap.size w w' :=
 (Uk s Ap Ac Av Af cp cc cv cf F w hE hs d hF a).mono fun e w' h=>⟨by
   by_cases hgd:At s=true/\BK s.ps.length F=true
   · rw[if_pos hgd];have h1:=h.1;rw[if_pos hgd,if_neg (by rw[Ls F hgd.1 hn];decide)]at h1;exact h1
   · rw[if_neg hgd];have h1:=h.1;rw[if_neg hgd]at h1;exact h1,h.2⟩
end Sh
end
section
open Go.RowKit Go.Shelf
namespace Bd
open Nt Ci Sh
def lM:List Lk:=[(0,1,false,⟨#[49]⟩,⟨#[50]⟩),(0,2,false,⟨#[49]⟩,⟨#[50]⟩),(1,0,false,⟨#[49]⟩,⟨#[50]⟩)]
def sM:SR:=⟨[⟨#[97]⟩,⟨#[98]⟩,⟨#[112]⟩],lM,[]⟩
def LM:List Lp:=[(0,1,1/2),(0,2,1/2),(1,0,1/2)]
theorem D6:At sM=true:=by decide +kernel
theorem Hk:BK (sM.ps.length:Int) [2]=true:=by decide +kernel
theorem Kb:Ae sM.cap=LM:=by decide +kernel
theorem Sy:Ad sM=[(1,0),(2,0),(0,1)]:=by decide +kernel
theorem Kc:toN [2]=[2]:=rfl
def q2:Rat:=2/3
def q1:Rat:=1/3
def v3 (a b c:Rat) (p:Nat):Rat:=if p=0 then a else if p=1 then b else if p=2 then c else 0
def V3 (a b c:Rat):List Raw:=[rq a,rq b,rq c]
theorem Kd (a b c:Rat):BJ (V3 a b c)=v3 a b c:=by
 funext p
 match p with
 | 0=>exact H9 a
 | 1=>exact H9 b
 | 2=>exact H9 c
 | p+3=>show BJ (V3 a b c) (p+3)=0;exact if_neg (by show ¬p+3<3;omega)
theorem Ul (v:Nat->Rat):An 0 v LM=1/2*v 1+1/2*v 2:=by simp[LM,An];grind
theorem Um (v:Nat->Rat):An 1 v LM=1/2*v 0:=by simp[LM,An];grind
theorem MZ {a b c:Rat} {R:List Int} (hR:R.length=0) (hf:Cg (V3 a b c)=true):Chk sM [2] true (V3 a b c) R↔(1/2*b+1/2*c<=a/\1/2*a<=b/\1<=c):=by
 unfold Chk;rw[Kd,Kb,Kc];constructor
 · rintro⟨_,_,_,_,h⟩;have h0:=((h 0 (by decide)).1 rfl).2 (by decide);have h1:=((h 1 (by decide)).1 rfl).2 (by decide);have h2:=((h 2 (by decide)).1 rfl).1 (by decide);rw[Ul]at h0;rw[Um]at h1;exact⟨h0,h1,h2⟩
 · rintro⟨h0,h1,h2⟩;refine⟨⟨D6,Hk⟩,rfl,hR,hf,fun p hp=>⟨fun _=>?_,fun h=>by cases h⟩⟩
   match p,hp with
   | 0,_=>exact⟨fun h=>absurd h (by decide),fun _=>by rw[Ul];exact h0⟩
   | 1,_=>exact⟨fun h=>absurd h (by decide),fun _=>by rw[Um];exact h1⟩
   | 2,_=>exact⟨fun _=>h2,fun h=>absurd (by decide:(2:Nat)∈[2]) h⟩
   | p+3,hp=>exact absurd hp (by show ¬p+3<3;omega)
theorem NY {a b c:Rat} (ha:a≠0) (hb:b≠0) (hc:c≠0) (hf:Cg (V3 a b c)=true) (h0:a<=1/2*b+1/2*c) (h1:b<=1/2*a) (h2:c<=1):Chk sM [2] false (V3 a b c) [1,2,0]:=by
 unfold Chk;rw[Kd,Kb,Kc];refine⟨⟨D6,Hk⟩,rfl,rfl,hf,fun p hp=>⟨fun h=>(by cases h),fun _=>?_⟩⟩
 match p,hp with
 | 0,_=>exact⟨fun h=>absurd h ha,fun _ h=>absurd h (by decide),fun _ _=>⟨by decide,by rw[Ul];exact h0,(0,2,1/2),by simp[LM],rfl,by decide,by decide,hc⟩⟩
 | 1,_=>exact⟨fun h=>absurd h hb,fun _ h=>absurd h (by decide),fun _ _=>⟨by decide,by rw[Um];exact h1,(1,0,1/2),by simp[LM],rfl,by decide,by decide,ha⟩⟩
 | 2,_=>exact⟨fun h=>absurd h hc,fun _ _=>⟨rfl,h2⟩,fun _ h=>absurd (by decide:(2:Nat)∈[2]) h⟩
 | p+3,hp=>exact absurd hp (by show ¬p+3<3;omega)
theorem Vy {a b c:Rat} (hb:b≠0):¬Chk sM [2] false (V3 a b c) [2,1,0]:=by
 unfold Chk;rw[Kd,Kb,Kc];rintro⟨_,_,_,_,h⟩;obtain⟨_,_,x,hx,h1,h2,h3,_⟩:=((h 1 (by decide)).2 rfl).2.2 hb (by decide);simp only[LM,List.mem_cons,List.not_mem_nil,or_false]at hx
 rcases hx with rfl | rfl | rfl
 · cases h1
 · cases h1
 · exact absurd h3 (by decide)
theorem Jw:Cg (V3 q2 q1 1)=true:=by decide +kernel
theorem NZ:Cg (V3 (1/2) (1/4) 1)=true:=by decide +kernel
theorem Sz:Cg (V3 1 1 1)=true:=by decide +kernel
theorem S8:ev sM [2] 0=q2/\ev sM [2] 1=q1/\ev sM [2] 2=1:=by
 have h:=Vx (F:=[2]) D6 (Ls _ D6 (by decide));rw[Kb,Kc]at h;have h2:=h.listed 2 (by decide);have h0:=h.sum 0 (by decide) (by decide);have h1:=h.sum 1 (by decide) (by decide);rw[Ul]at h0;rw[Um]at h1;refine⟨?_,?_,h2⟩
 · show _=(2/3:Rat);grind
 · show _=(1/3:Rat);grind
def oM (x:Nat):Int:=if x=0 then 1 else if x=1 then 2 else 0
theorem S9:∀x,x<3->rk (Ad sM) (toN [2]) x=oM x:=fun x hx=>by
 have hE:InN 3 (Ad sM):=Hx D6;rw[Sy]at hE ⊢;refine KV (n:=3) (fun f hf=>?_) hE (by decide) ?_ hx
 · have:f=2:=by simpa [toN] using hf
   subst this;decide
 · have:∀x,x<3->oM x=-1∨(oM x=0/\x∈toN [2])∨∃e,e∈[(1,0),(2,0),(0,1)]/\e.2=x/\0<=oM e.1/\oM x=oM e.1+1:=by decide
   exact this
end Bd
end
section
open Go.RowKit Go.Shelf
namespace Bd
open Nt Ci Sh
theorem Ke (A B:Option Addr) (n m ca cb:Nat) (h:n≠m) (w:World) :
 Calls Tryz.prog 22 #[.slice A n ca,.slice B m cb] w fun e w'=>e=.returned (.bool false)/\Below w.heap.size w w':=by
 have h1:((n:Int)==(m:Int))=false:=by rw[beq_eq_false_iff_ne];omega
 have h2:¬((n:Int)=(m:Int)):=by omega
 replace h2:=zh h2;go_enter Tryz.func22,Tryz.ntmps22;go_wp2;go_ret;exact⟨rfl,Below.refl _ _⟩
theorem IB (A B:Option Addr) (ca cb:Nat) (l m:List Raw) (h:l.length=m.length) (w:World) (hl:InRow w A l) (hm:InRow w B m) (af:l.length<9223372036854775807) :
 Calls Tryz.prog 22 #[.slice A l.length ca,.slice B m.length cb] w fun e w'=>e=.returned (.bool (decide (l=m)))/\Below w.heap.size w w':=by
 rw[<-h];go_enter Tryz.func22,Tryz.ntmps22;go_wp2;replace hl:=zh hl;replace hm:=zh hm
 go_loopw [5] (fun i wr=>∃y q:Nat,y<=l.length/\i=.int .i64 (y:Int)/\wr=w.drewN q/\Hid (l.take y=m.take y)) (fun i _=>l.length-(intOf i).toNat)
 case atStart=>exact⟨0,0,Nat.zero_le _,rfl,rfl,rfl⟩
 case round =>
  obtain⟨y,q,hy,rfl,rfl,hI⟩:=hrel
  by_cases hlt:y<l.length
  · obtain ⟨b,o,rfl,hb,hc⟩:=hl.out (by omega);obtain⟨b2,o2,rfl,ag,a⟩:=hm.out (by omega);obtain⟨e1,e2,e3⟩:=hc y hlt;obtain⟨f1,f2,f3⟩:=a y (by omega);have ad:∃x,x=l[y]:=⟨_,rfl⟩;have ae:∃z,z=m[y]'(by omega):=⟨_,rfl⟩;obtain⟨⟨g1,n1,d1⟩,hx⟩:=ad;obtain⟨⟨g2,n2,d2⟩,hz⟩:=ae;rw[<-hx]at e1 e2 e3;rw[<-hz]at f1 f2 f3;replace e1:(w.drewN q).cell? ⟨b,o+y*3,none⟩=some (.bool g1):=e1;replace e2:(w.drewN q).cell? ⟨b,o+y*3+1,none⟩=some (.string n1):=e2;replace e3:(w.drewN q).cell? ⟨b,o+y*3+2,none⟩=some (.string d1):=e3;replace f1:(w.drewN q).cell? ⟨b2,o2+y*3,none⟩=some (.bool g2):=f1;replace f2:(w.drewN q).cell? ⟨b2,o2+y*3+1,none⟩=some (.string n2):=f2;replace f3:(w.drewN q).cell? ⟨b2,o2+y*3+2,none⟩=some (.string d2):=f3;have s1:(0:Int)<=(y:Int):=by omega
    have s2:(y:Int)<(l.length:Int):=by omega
    replace hx:=zh hx;replace hz:=zh hz;clear hc a;generalize d:w.drewN q=wq at *
    by_cases q1:g1=g2<;>by_cases q2:n1.toList=n2.toList<;>by_cases q3:d1.toList=d2.toList
    all_goals (
     go_wp2_with fail
     go_quiet (fail)
     go_wp2)
    · obtain rfl:=q1;obtain rfl:n1=n2:=NF q2;obtain rfl:d1=d2:=NF q3;refine⟨⟨y+1,q+nq,by omega,by go_num,by rw[<-d,World.drewN_drewN],?_⟩,by simp only[intOf];omega⟩
      show l.take (y+1)=m.take (y+1)
      rw[List.take_succ_eq_append_getElem hlt,List.take_succ_eq_append_getElem (by omega),hI.out,<-hx.out,<-hz.out]
    all_goals (
     have aa:Hid (l≠m):=fun e=>by
      have e3:(g1,n1,d1)=(g2,n2,d2):=by rw[hx.out,hz.out];exact List.getElem_of_eq e _
      simp only[Prod.mk.injEq]at e3;obtain⟨rfl,rfl,rfl⟩:=e3;simp at q1 q2 q3
     go_ret;exact⟨by rw[decide_eq_false aa.out];rfl,by rw[<-d];exact Cp (Cp (Below.refl _ w) q) nq⟩)
  · obtain rfl:y=l.length:=by omega
    have hd:Hid (l=m):=by
     have:=hI.out
     rwa [List.take_of_length_le (Nat.le_refl _),List.take_of_length_le (by omega)]at this
    go_wp2;go_ret;exact⟨by rw[decide_eq_true hd.out];rfl,Cp (Below.refl _ w) q⟩
theorem Kf (A B:Option Addr) (ca cb:Nat) (l m:List Raw) (w:World) (hl:InRow w A l) (hm:InRow w B m) (a:l.length<9223372036854775807) :
 Calls Tryz.prog 22 #[.slice A l.length ca,.slice B m.length cb] w fun e w'=>e=.returned (.bool (decide (l=m)))/\Below w.heap.size w w':=by
 by_cases h:l.length=m.length
 · exact IB A B ca cb l m h w hl hm a
 · rw[decide_eq_false (fun e=>h (by rw[e]))];exact Ke A B _ _ ca cb h w
theorem Na (ab ab':Bool) (Aw Ar Aw' Ar':Option Addr) (cw cr cw' cr':Nat) (V V':List Raw) (R R':List Int) (w:World) (hV:InRow w Aw V) (ag:InRow w Aw' V') (hR:InInt w Ar R) (af:InInt w Ar' R')
 (l1:V.length<9223372036854775807) (l2:R.length<=140737488355328) :
 Calls Tryz.prog 17 #[.agg #[.bool ab,.slice Aw V.length cw,.slice Ar R.length cr],.agg #[.bool ab',.slice Aw' V'.length cw',.slice Ar' R'.length cr']] w fun e w'=>e=.returned (.bool (decide (ab=ab')&&(decide (V=V')&&decide (R=R'))))/\Below w.heap.size w w':=by
 have a:Hid (Below w.heap.size w ((w.alloc (.cells #[.bool ab,.slice Aw V.length cw,.slice Ar R.length cr] 29)).alloc (.cells #[.bool ab',.slice Aw' V'.length cw',.slice Ar' R'.length cr'] 29))):=((Below.refl _ w).alloc (Nat.le_refl _) _).alloc (by simp) _;have k1:=zh (Kf Aw Aw' cw cw' V V' ((w.alloc (.cells #[.bool ab,.slice Aw V.length cw,.slice Ar R.length cr] 29)).alloc (.cells #[.bool ab',.slice Aw' V'.length cw',.slice Ar' R'.length cr'] 29)) (hV.below a.out (Nat.le_refl _)) (ag.below a.out (Nat.le_refl _)) l1);have k2:=zh (fun W (h:Below w.heap.size w W)=>Sa Ar Ar' cr cr' R R' W (hR.below h) (af.below h) l2);have ah:Hid (Bk ((w.alloc (.cells #[.bool ab,.slice Aw V.length cw,.slice Ar R.length cr] 29)).alloc (.cells #[.bool ab',.slice Aw' V'.length cw',.slice Ar' R'.length cr'] 29)) w.heap.size 29 [.bool ab,.slice Aw V.length cw,.slice Ar R.length cr]):=(Bk.new w _ _).alloc _
 have ai:Hid (Bk ((w.alloc (.cells #[.bool ab,.slice Aw V.length cw,.slice Ar R.length cr] 29)).alloc (.cells #[.bool ab',.slice Aw' V'.length cw',.slice Ar' R'.length cr'] 29)) (w.heap.size+1) 29 [.bool ab',.slice Aw' V'.length cw',.slice Ar' R'.length cr']):=by
  have h:=Bk.new (w.alloc (.cells #[.bool ab,.slice Aw V.length cw,.slice Ar R.length cr] 29)) 29 [.bool ab',.slice Aw' V'.length cw',.slice Ar' R'.length cr'];rw[World.size_alloc]at h;exact h
 have m:(ab==ab')=decide (ab=ab'):=rfl;generalize decide (V=V')=d1 at k1 ⊢;generalize decide (R=R')=d2 at k2 ⊢
 by_cases h:ab=ab'
 · rw [decide_eq_true h,Bool.true_and];rw[decide_eq_true h]at m;replace h:=zh h
   cases d1 with
   | false =>
     go_enter Tryz.func17,Tryz.ntmps17
     go_wp2_with fail
     refine k1.out.mono ?_;rintro e w2 ⟨rfl,hb⟩;have ad:=zh (a.out.trans (hb.mono a.out.size));clear hb;go_wp2;go_ret;exact⟨rfl,ad.out⟩
   | true =>
     rw[Bool.true_and];go_enter Tryz.func17,Tryz.ntmps17
     go_wp2_with fail
     refine k1.out.mono ?_;rintro e w2 ⟨rfl,hb⟩;have ad:=zh (a.out.trans (hb.mono a.out.size));have d:=ah.out.below hb;have aa:=ai.out.below hb;have u0:=d.c0;have u1:=d.c1;have u2:=d.c2;have u9:=d.lt;have v0:=aa.c0;have v1:=aa.c1;have v2:=aa.c2;have v9:=aa.lt;clear hb d aa
     go_wp2_with fail
     refine(k2.out _ ad.out).mono ?_;rintro e w3 ⟨rfl,q,rfl⟩;have ae:=zh (Cp ad.out q);clear u0 u1 u2 u9 v0 v1 v2 v9;go_wp2;go_ret;exact⟨rfl,ae.out⟩
 · rw[decide_eq_false h,Bool.false_and];rw[decide_eq_false h]at m;replace h:=zh h;go_enter Tryz.func17,Tryz.ntmps17;go_wp2;go_ret;exact⟨rfl,a.out⟩
end Bd
end
section
open Go.RowKit Go.Shelf
namespace Bd
open Nt Ci Sh
theorem Hl {w:World} {b n:Nat} {o:Nat->Int} {p:Addr} (h:RoI w b n o) (hp:b≠p.block) (v:Value):RoI (w.setCell p v) b n o:=h.of_block (by simp) (Below.heap_setCell _ _ _ _ hp)
theorem SA (s:SR) (Ap Ac Av Af:Option Addr) (cp cc cv cf:Nat) (F:List Int) (w:World) (r:Nat->Raw) (ke:∀W,Below w.heap.size w W->Calls Tryz.prog 20 #[.agg #[.slice Ap s.ps.length cp,.slice Ac s.cap.length cc,.slice Av s.vot.length cv],.slice Af F.length cf] W fun e w'=>(∃b,e=.returned (.tuple #[.slice (some ⟨b,0,none⟩) s.ps.length s.ps.length,.int .i64 0])/\RowB w' b s.ps.length r/\W.heap.size<=b)/\Below W.heap.size W w') :
 Calls Tryz.prog 15 #[.agg #[.slice Ap s.ps.length cp,.slice Ac s.cap.length cc,.slice Av s.vot.length cv],.slice Af F.length cf] w fun e w'=>(∃b,e=.returned (.tuple #[.agg #[.bool true,.slice (some ⟨b,0,none⟩) s.ps.length s.ps.length,.slice none 0 0],.int .i64 0])/\RowB w' b s.ps.length r/\w.heap.size<=b)/\Below w.heap.size w w':=by
 have ad:Hid (Below w.heap.size w ((w.alloc (.cells #[.slice Ap s.ps.length cp,.slice Ac s.cap.length cc,.slice Av s.vot.length cv] 25)).alloc (.cells #[.bool false,.slice none 0 0,.slice none 0 0] 29))):=((Below.refl _ w).alloc (Nat.le_refl _) _).alloc (by simp) _;have al:Hid (Bk ((w.alloc (.cells #[.slice Ap s.ps.length cp,.slice Ac s.cap.length cc,.slice Av s.vot.length cv] 25)).alloc (.cells #[.bool false,.slice none 0 0,.slice none 0 0] 29)) w.heap.size 25 [.slice Ap s.ps.length cp,.slice Ac s.cap.length cc,.slice Av s.vot.length cv]):=(Bk.new w _ _).alloc _
 have ah:Hid (Bk ((w.alloc (.cells #[.slice Ap s.ps.length cp,.slice Ac s.cap.length cc,.slice Av s.vot.length cv] 25)).alloc (.cells #[.bool false,.slice none 0 0,.slice none 0 0] 29)) (w.heap.size+1) 29 [.bool false,.slice none 0 0,.slice none 0 0]):=by
  have h:=Bk.new (w.alloc (.cells #[.slice Ap s.ps.length cp,.slice Ac s.cap.length cc,.slice Av s.vot.length cv] 25)) 29 [.bool false,.slice none 0 0,.slice none 0 0];rw[World.size_alloc]at h;exact h
 have k1:=zh (ke _ ad.out);clear ke;go_enter Tryz.func15,Tryz.ntmps15
 go_wp2_with fail
 refine k1.out.mono ?_;rintro e w2 ⟨⟨b,rfl,d,ag⟩,hb⟩;have aj:=zh (ad.out.trans (hb.mono ad.out.size));have a:=zh (ah.out.below hb);have aa:b≠w.heap.size+1:=by simp at ag;omega
 have ai:w.heap.size<=b:=by simp at ag;omega
 replace d:=zh d;clear hb k1 ad al ah ag;have r0:=a.out.c0;have r1:=a.out.c1;have r2:=a.out.c2;have r9:=a.out.lt;have am:=a.out.frozen 0;have an:=a.out.frozen 1;have ao:=a.out.frozen 2;have ak:Hid (Below w.heap.size w (((w2.setCell ⟨w.heap.size+1,0,none⟩ (.bool true)).setCell ⟨w.heap.size+1,1,none⟩ (.slice (some ⟨b,0,none⟩) s.ps.length s.ps.length)).setCell ⟨w.heap.size+1,2,none⟩ (.slice none 0 0))):=(((aj.out.setCell (p:=⟨w.heap.size+1,0,none⟩) (by simp) _).setCell (p:=⟨w.heap.size+1,1,none⟩) (by simp) _).setCell (p:=⟨w.heap.size+1,2,none⟩) (by simp) _);have ae:Hid (Bk (((w2.setCell ⟨w.heap.size+1,0,none⟩ (.bool true)).setCell ⟨w.heap.size+1,1,none⟩ (.slice (some ⟨b,0,none⟩) s.ps.length s.ps.length)).setCell ⟨w.heap.size+1,2,none⟩ (.slice none 0 0)) (w.heap.size+1) 29 [.bool true,.slice (some ⟨b,0,none⟩) s.ps.length s.ps.length,.slice none 0 0]):=(Bk.set (Bk.set (Bk.set a.out 0 _) 1 _) 2 _);have af:Hid (RowB (((w2.setCell ⟨w.heap.size+1,0,none⟩ (.bool true)).setCell ⟨w.heap.size+1,1,none⟩ (.slice (some ⟨b,0,none⟩) s.ps.length s.ps.length)).setCell ⟨w.heap.size+1,2,none⟩ (.slice none 0 0)) b s.ps.length r):=((d.out.far aa _).far aa _).far aa _;go_wp2;have s0:=ae.out.c0;have s1:=ae.out.c1;have s2:=ae.out.c2;have s9:=ae.out.lt;refine bodyPost_ret (v:=.tuple #[.agg #[.bool true,.slice (some ⟨b,0,none⟩) s.ps.length s.ps.length,.slice none 0 0],.int .i64 0]) (by simp[results,Tryz.results15,go_sem,s0,s1,s2]) rfl ?_;exact⟨⟨b,rfl,af.out,ai⟩,ak.out⟩
theorem SB (s:SR) (Ap Ac Av Af:Option Addr) (cp cc cv cf:Nat) (F:List Int) (w:World) (r:Nat->Raw) (aq:Nat->Int) (ke:∀W,Below w.heap.size w W->Calls Tryz.prog 15 #[.agg #[.slice Ap s.ps.length cp,.slice Ac s.cap.length cc,.slice Av s.vot.length cv],.slice Af F.length cf] W fun e w'=>(∃b,e=.returned (.tuple #[.agg #[.bool true,.slice (some ⟨b,0,none⟩) s.ps.length s.ps.length,.slice none 0 0],.int .i64 0])/\RowB w' b s.ps.length r/\W.heap.size<=b)/\Below W.heap.size W w')
 (kr:∀W,Below w.heap.size w W->Calls Tryz.prog 35 #[.agg #[.slice Ap s.ps.length cp,.slice Ac s.cap.length cc,.slice Av s.vot.length cv],.slice Af F.length cf] W fun e w'=>(∃b,e=.returned (.tuple #[.slice (some ⟨b,0,none⟩) s.ps.length s.ps.length,.int .i64 0])/\RoI w' b s.ps.length aq/\W.heap.size<=b)/\Below W.heap.size W w') :
 Calls Tryz.prog 13 #[.agg #[.slice Ap s.ps.length cp,.slice Ac s.cap.length cc,.slice Av s.vot.length cv],.slice Af F.length cf] w fun e w'=>(∃b b2,e=.returned (.tuple #[.agg #[.bool false,.slice (some ⟨b,0,none⟩) s.ps.length s.ps.length,.slice (some ⟨b2,0,none⟩) s.ps.length s.ps.length],.int .i64 0])/\RowB w' b s.ps.length r/\RoI w' b2 s.ps.length aq)/\Below w.heap.size w w':=by
 have aj:Hid (Below w.heap.size w ((w.alloc (.cells #[.slice Ap s.ps.length cp,.slice Ac s.cap.length cc,.slice Av s.vot.length cv] 25)).alloc (.cells #[.bool false,.slice none 0 0,.slice none 0 0] 29))):=((Below.refl _ w).alloc (Nat.le_refl _) _).alloc (by simp) _;have aE:Hid (Bk ((w.alloc (.cells #[.slice Ap s.ps.length cp,.slice Ac s.cap.length cc,.slice Av s.vot.length cv] 25)).alloc (.cells #[.bool false,.slice none 0 0,.slice none 0 0] 29)) w.heap.size 25 [.slice Ap s.ps.length cp,.slice Ac s.cap.length cc,.slice Av s.vot.length cv]):=(Bk.new w _ _).alloc _
 have aA:Hid (Bk ((w.alloc (.cells #[.slice Ap s.ps.length cp,.slice Ac s.cap.length cc,.slice Av s.vot.length cv] 25)).alloc (.cells #[.bool false,.slice none 0 0,.slice none 0 0] 29)) (w.heap.size+1) 29 [.bool false,.slice none 0 0,.slice none 0 0]):=by
  have h:=Bk.new (w.alloc (.cells #[.slice Ap s.ps.length cp,.slice Ac s.cap.length cc,.slice Av s.vot.length cv] 25)) 29 [.bool false,.slice none 0 0,.slice none 0 0];rw[World.size_alloc]at h;exact h
 have k1:=zh (ke _ aj.out);replace kr:=zh kr;clear ke;go_enter Tryz.func13,Tryz.ntmps13
 go_wp2_with fail
 refine k1.out.mono ?_;rintro e w2 ⟨⟨b,rfl,d,aG⟩,hb⟩;have ao:=hb.size;have aK:=d.lt;have ai:b≠w.heap.size+1:=by simp at aG;omega
 have aL:b≠w2.heap.size:=by omega
 have aM:w2.heap.size≠w.heap.size+1:=by simp at ao;omega
 have aH:=aM.symm;have aQ:w.heap.size<=w2.heap.size:=by simp at ao;omega
 have aO:w.heap.size≠w2.heap.size:=by simp at ao;omega
 have aR:=aO.symm;have aa:=aE.out.below hb;have u0:=aa.c0;have u1:=aa.c1;have u2:=aa.c2;have u9:=aa.lt;clear aa;obtain⟨w3,ad⟩:∃X,X=w2.alloc (.cells #[.bool false,.slice (some ⟨b,0,none⟩) s.ps.length s.ps.length,.slice none 0 0] 29):=⟨_,rfl⟩;have au:=aj.out.trans (hb.mono aj.out.size);have ak:Hid (Below w.heap.size w w3):=by rw[ad];exact au.alloc au.size _
 have ay:Hid (Bk w3 w2.heap.size 29 [.bool false,.slice (some ⟨b,0,none⟩) s.ps.length s.ps.length,.slice none 0 0]):=by rw[ad];exact Bk.new _ _ _
 have av:Hid (Bk w3 (w.heap.size+1) 29 [.bool false,.slice none 0 0,.slice none 0 0]):=by rw[ad];exact(aA.out.below hb).alloc _
 have ae:Hid (RowB w3 b s.ps.length r):=by rw[ad];exact d.alloc _
 have k3:=zh (kr.out _ ak.out);replace d:=zh d;clear hb k1 kr aj aE aA ao aG au aK;rw[ad]at k3
 go_wp2_with fail
 refine k3.out.mono ?_;rintro e w4 ⟨⟨b2,rfl,al,ar⟩,hb⟩;rw[<-ad]at hb ar;have az:=zh (ak.out.trans (hb.mono ak.out.size));have af:=zh (ay.out.below hb);have aB:=zh (av.out.below hb);have ag:=zh (ae.out.below hb ae.out.lt);have aP:=ay.out.lt;have aN:=av.out.lt;have aF:b2≠w2.heap.size:=by omega
 have ah:b2≠w.heap.size+1:=by omega
 replace al:=zh al;replace ad:=zh ad;clear hb k3 u0 u1 u2 u9 ak ay av ae ar aP aN d;have x0:=af.out.c0;have x1:=af.out.c1;have x2:=af.out.c2;have x9:=af.out.lt;have aV:=af.out.frozen 2;have an:Hid (Bk (w4.setCell ⟨w2.heap.size,2,none⟩ (.slice (some ⟨b2,0,none⟩) s.ps.length s.ps.length)) w2.heap.size 29 [.bool false,.slice (some ⟨b,0,none⟩) s.ps.length s.ps.length,.slice (some ⟨b2,0,none⟩) s.ps.length s.ps.length]):=af.out.set 2 _;have aI:Hid (Below w.heap.size w (w4.setCell ⟨w2.heap.size,2,none⟩ (.slice (some ⟨b2,0,none⟩) s.ps.length s.ps.length))):=az.out.setCell (p:=⟨w2.heap.size,2,none⟩) aQ _;have a:Hid (Bk (w4.setCell ⟨w2.heap.size,2,none⟩ (.slice (some ⟨b2,0,none⟩) s.ps.length s.ps.length)) (w.heap.size+1) 29 [.bool false,.slice none 0 0,.slice none 0 0]):=aB.out.far aH _;have aw:Hid (RowB (w4.setCell ⟨w2.heap.size,2,none⟩ (.slice (some ⟨b2,0,none⟩) s.ps.length s.ps.length)) b s.ps.length r):=ag.out.far aL _;have aC:Hid (RoI (w4.setCell ⟨w2.heap.size,2,none⟩ (.slice (some ⟨b2,0,none⟩) s.ps.length s.ps.length)) b2 s.ps.length aq):=Hl al.out aF _;have y0:=an.out.c0;have y1:=an.out.c1;have y2:=an.out.c2;have y9:=an.out.lt;clear az af aB ag al;have r0:=a.out.c0;have r1:=a.out.c1;have r2:=a.out.c2;have r9:=a.out.lt;have aS:=a.out.frozen 0;have aT:=a.out.frozen 1;have aU:=a.out.frozen 2;have aJ:Hid (Below w.heap.size w ((((w4.setCell ⟨w2.heap.size,2,none⟩ (.slice (some ⟨b2,0,none⟩) s.ps.length s.ps.length)).setCell ⟨w.heap.size+1,0,none⟩ (.bool false)).setCell ⟨w.heap.size+1,1,none⟩ (.slice (some ⟨b,0,none⟩) s.ps.length s.ps.length)).setCell ⟨w.heap.size+1,2,none⟩ (.slice (some ⟨b2,0,none⟩) s.ps.length s.ps.length))):=(((aI.out.setCell (p:=⟨w.heap.size+1,0,none⟩) (by simp) _).setCell (p:=⟨w.heap.size+1,1,none⟩) (by simp) _).setCell (p:=⟨w.heap.size+1,2,none⟩) (by simp) _);have am:Hid (Bk ((((w4.setCell ⟨w2.heap.size,2,none⟩ (.slice (some ⟨b2,0,none⟩) s.ps.length s.ps.length)).setCell ⟨w.heap.size+1,0,none⟩ (.bool false)).setCell ⟨w.heap.size+1,1,none⟩ (.slice (some ⟨b,0,none⟩) s.ps.length s.ps.length)).setCell ⟨w.heap.size+1,2,none⟩ (.slice (some ⟨b2,0,none⟩) s.ps.length s.ps.length)) (w.heap.size+1) 29 [.bool false,.slice (some ⟨b,0,none⟩) s.ps.length s.ps.length,.slice (some ⟨b2,0,none⟩) s.ps.length s.ps.length]):=(Bk.set (Bk.set (Bk.set a.out 0 _) 1 _) 2 _);have ax:Hid (RowB ((((w4.setCell ⟨w2.heap.size,2,none⟩ (.slice (some ⟨b2,0,none⟩) s.ps.length s.ps.length)).setCell ⟨w.heap.size+1,0,none⟩ (.bool false)).setCell ⟨w.heap.size+1,1,none⟩ (.slice (some ⟨b,0,none⟩) s.ps.length s.ps.length)).setCell ⟨w.heap.size+1,2,none⟩ (.slice (some ⟨b2,0,none⟩) s.ps.length s.ps.length)) b s.ps.length r):=((aw.out.far ai _).far ai _).far ai _;have aD:Hid (RoI ((((w4.setCell ⟨w2.heap.size,2,none⟩ (.slice (some ⟨b2,0,none⟩) s.ps.length s.ps.length)).setCell ⟨w.heap.size+1,0,none⟩ (.bool false)).setCell ⟨w.heap.size+1,1,none⟩ (.slice (some ⟨b,0,none⟩) s.ps.length s.ps.length)).setCell ⟨w.heap.size+1,2,none⟩ (.slice (some ⟨b2,0,none⟩) s.ps.length s.ps.length)) b2 s.ps.length aq):=Hl (Hl (Hl aC.out ah _) ah _) ah _;go_wp2;have s0:=am.out.c0;have s1:=am.out.c1;have s2:=am.out.c2;have s9:=am.out.lt;refine bodyPost_ret (v:=.tuple #[.agg #[.bool false,.slice (some ⟨b,0,none⟩) s.ps.length s.ps.length,.slice (some ⟨b2,0,none⟩) s.ps.length s.ps.length],.int .i64 0]) (by simp[results,Tryz.results13,go_sem,s0,s1,s2]) rfl ?_;exact⟨⟨b,b2,rfl,ax.out,aD.out⟩,aJ.out⟩
end Bd
end
section
open Go.RowKit Go.Shelf
namespace Bd
open Nt Ci Sh
theorem BD (n d:ByteArray) (w:World):Calls Tryz.prog 25 #[.string n,.string d] w fun e w'=>e=.returned (.agg #[.bool false,.string n,.string d])/\Below w.heap.size w w':=by
 have h:Hid (Below w.heap.size w (w.alloc (.cells #[.bool false,.string ⟨#[]⟩,.string ⟨#[]⟩] 40))):=(Below.refl _ w).alloc (Nat.le_refl _) _;have ae:Hid (Bk (w.alloc (.cells #[.bool false,.string ⟨#[]⟩,.string ⟨#[]⟩] 40)) w.heap.size 40 [.bool false,.string ⟨#[]⟩,.string ⟨#[]⟩]):=Bk.new _ _ _;have ad:Hid (Below w.heap.size w ((((w.alloc (.cells #[.bool false,.string ⟨#[]⟩,.string ⟨#[]⟩] 40)).setCell ⟨w.heap.size,0,none⟩ (.bool false)).setCell ⟨w.heap.size,1,none⟩ (.string n)).setCell ⟨w.heap.size,2,none⟩ (.string d))):=((h.out.setCell (p:=⟨w.heap.size,0,none⟩) (Nat.le_refl _) _).setCell (p:=⟨w.heap.size,1,none⟩) (Nat.le_refl _) _).setCell (p:=⟨w.heap.size,2,none⟩) (Nat.le_refl _) _;have aa:Hid (Below w.heap.size w (w.alloc (.cells #[.bool false,.string n,.string d] 40))):=(Below.refl _ w).alloc (Nat.le_refl _) _;have a:Hid (Bk (w.alloc (.cells #[.bool false,.string n,.string d] 40)) w.heap.size 40 [.bool false,.string n,.string d]):=Bk.new _ _ _;go_enter Tryz.func25,Tryz.ntmps25;go_wp2;have s0:=a.out.c0;have s1:=a.out.c1;have s2:=a.out.c2;have s9:=a.out.lt;refine bodyPost_ret (v:=.agg #[.bool false,.string n,.string d]) (by simp[results,Tryz.results25,go_sem,s0,s1,s2]) rfl ⟨rfl,aa.out⟩
theorem Wg {W:World} {b:Nat} (h:Bk W b 59 [.int .i64 0,.int .i64 1,.bool false,.string ⟨#[49]⟩,.string ⟨#[50]⟩,.int .i64 0,.int .i64 2,.bool false,.string ⟨#[49]⟩,.string ⟨#[50]⟩,.int .i64 1,.int .i64 0,.bool false,.string ⟨#[49]⟩,.string ⟨#[50]⟩]):InLk W (some ⟨b,0,none⟩) lM:=fun _=>⟨b,0,rfl,h.lt,fun j hj=>by
 match j,hj with
 | 0,_=>exact⟨h.c0,h.c1,h.c2,h.c3,h.c4⟩
 | 1,_=>exact⟨h.c5,h.c6,h.c7,h.cell (j:=8) rfl,h.cell (j:=9) rfl⟩
 | 2,_=>exact⟨h.cell (j:=10) rfl,h.cell (j:=11) rfl,h.cell (j:=12) rfl,h.cell (j:=13) rfl,h.cell (j:=14) rfl⟩
 | j+3,hj=>exact absurd hj (by simp[lM])⟩
theorem Nb {W:World} {b:Nat} {x y z:Raw} (h:Bk W b 40 [.bool x.1,.string x.2.1,.string x.2.2,.bool y.1,.string y.2.1,.string y.2.2,.bool z.1,.string z.2.1,.string z.2.2]):InRow W (some ⟨b,0,none⟩) [x,y,z]:=fun _=>⟨b,0,rfl,h.lt,fun j hj=>by
 match j,hj with
 | 0,_=>exact⟨h.c0,h.c1,h.c2⟩
 | 1,_=>exact⟨h.c3,h.c4,h.c5⟩
 | 2,_=>exact⟨h.c6,h.c7,h.cell (j:=8) rfl⟩
 | j+3,hj=>exact absurd hj (by simp)⟩
theorem stM {W:World} {pb cb:Nat} (h1:Bk W pb 9 [.string ⟨#[97]⟩,.string ⟨#[98]⟩,.string ⟨#[112]⟩]) (h2:Bk W cb 59 [.int .i64 0,.int .i64 1,.bool false,.string ⟨#[49]⟩,.string ⟨#[50]⟩,.int .i64 0,.int .i64 2,.bool false,.string ⟨#[49]⟩,.string ⟨#[50]⟩,.int .i64 1,.int .i64 0,.bool false,.string ⟨#[49]⟩,.string ⟨#[50]⟩]):StIn W sM (some ⟨pb,0,none⟩) (some ⟨cb,0,none⟩) none:=⟨fun _=>⟨pb,0,rfl,h1.lt,fun j hj=>by
 match j,hj with
 | 0,_=>exact h1.c0
 | 1,_=>exact h1.c1
 | 2,_=>exact h1.c2
 | j+3,hj=>exact absurd hj (by simp[sM])⟩,Wg h2,fun h=>absurd h (by decide),by decide,by decide,by decide,by decide +kernel,by decide +kernel,by decide +kernel,by decide +kernel,by decide +kernel⟩
theorem Nc (w:World):Calls Tryz.prog 32 #[] w fun e w'=>(∃pb cb,e=.returned (.agg #[.slice (some ⟨pb,0,none⟩) 3 3,.slice (some ⟨cb,0,none⟩) 3 3,.slice none 0 0])/\Bk w' pb 9 [.string ⟨#[97]⟩,.string ⟨#[98]⟩,.string ⟨#[112]⟩]/\Bk w' cb 59 [.int .i64 0,.int .i64 1,.bool false,.string ⟨#[49]⟩,.string ⟨#[50]⟩,.int .i64 0,.int .i64 2,.bool false,.string ⟨#[49]⟩,.string ⟨#[50]⟩,.int .i64 1,.int .i64 0,.bool false,.string ⟨#[49]⟩,.string ⟨#[50]⟩])/\Below w.heap.size w w':=by
 have ai:Hid (Below w.heap.size w w):=Below.refl _ _;obtain⟨w2,ad⟩:∃X,X=(w.alloc (.cells #[.slice none 0 0,.slice none 0 0,.slice none 0 0] 25)):=⟨_,rfl⟩;have hd:Below w.heap.size w w2:=by rw[ad];exact((Below.refl _ w).alloc (Nat.le_refl _) _)
 have aj:=zh (ai.out.trans (hd.mono ai.out.size));clear hd ai ;obtain⟨br,d⟩:∃x,x=w.heap.size:=⟨_,rfl⟩;have ak:Hid (Bk w2 br 25 [.slice none 0 0,.slice none 0 0,.slice none 0 0]):=by rw[ad,d];have h:=Bk.new w 25 [.slice none 0 0,.slice none 0 0,.slice none 0 0];(try simp only[World.size_alloc]at h);exact h
 have ko:=zh (BD ⟨#[49]⟩ ⟨#[50]⟩ w2);go_enter Tryz.func32,Tryz.ntmps32
 go_wp2_with fail
 (try rw[<-ad])
 (try rw[<-d])
 refine ko.out.mono ?_;replace ad:=zh ad;replace d:=zh d;rintro e w3 ⟨rfl,hb⟩;have ae:=zh (aj.out.trans (hb.mono aj.out.size));have ah:=zh (ak.out.below hb);clear hb aj ak;clear ko;have al:=ae.out.size;have aq:=ah.out.lt;have aa:w.heap.size<=br:=by rw[d.out];exact Nat.le_refl _
 have np:w3.heap.size+1≠br:=by omega
 have nc:w3.heap.size+1+1≠br:=by omega
 have ag:Hid (Bk ((w3.alloc (.cells #[.bool false,.string ⟨#[49]⟩,.string ⟨#[50]⟩] 40)).alloc (.cells #[.string ⟨#[97]⟩,.string ⟨#[98]⟩,.string ⟨#[112]⟩] 9)) w3.heap.size 40 [.bool false,.string ⟨#[49]⟩,.string ⟨#[50]⟩]):=(Bk.new w3 40 [.bool false,.string ⟨#[49]⟩,.string ⟨#[50]⟩]).alloc (.cells #[.string ⟨#[97]⟩,.string ⟨#[98]⟩,.string ⟨#[112]⟩] 9);have x0:=ag.out.c0;have x1:=ag.out.c1;have x2:=ag.out.c2;have x9:=ag.out.lt;have a:=zh (((ah.out.alloc (.cells #[.bool false,.string ⟨#[49]⟩,.string ⟨#[50]⟩] 40)).alloc (.cells #[.string ⟨#[97]⟩,.string ⟨#[98]⟩,.string ⟨#[112]⟩] 9)).alloc (.cells #[.int .i64 0,.int .i64 1,.bool false,.string ⟨#[49]⟩,.string ⟨#[50]⟩,.int .i64 0,.int .i64 2,.bool false,.string ⟨#[49]⟩,.string ⟨#[50]⟩,.int .i64 1,.int .i64 0,.bool false,.string ⟨#[49]⟩,.string ⟨#[50]⟩] 59));have r0:=a.out.c0;have r1:=a.out.c1;have r2:=a.out.c2;have r9:=a.out.lt;have ar:=a.out.frozen 0;have au:=a.out.frozen 1;have av:=a.out.frozen 2;have am:Hid (Below w.heap.size w ((((((w3.alloc (.cells #[.bool false,.string ⟨#[49]⟩,.string ⟨#[50]⟩] 40)).alloc (.cells #[.string ⟨#[97]⟩,.string ⟨#[98]⟩,.string ⟨#[112]⟩] 9)).alloc (.cells #[.int .i64 0,.int .i64 1,.bool false,.string ⟨#[49]⟩,.string ⟨#[50]⟩,.int .i64 0,.int .i64 2,.bool false,.string ⟨#[49]⟩,.string ⟨#[50]⟩,.int .i64 1,.int .i64 0,.bool false,.string ⟨#[49]⟩,.string ⟨#[50]⟩] 59)).setCell ⟨br,0,none⟩ (.slice (some ⟨w3.heap.size+1,0,none⟩) 3 3)).setCell ⟨br,1,none⟩ (.slice (some ⟨w3.heap.size+1+1,0,none⟩) 3 3)).setCell ⟨br,2,none⟩ (.slice none 0 0))):=((((((ae.out.alloc ae.out.size (.cells #[.bool false,.string ⟨#[49]⟩,.string ⟨#[50]⟩] 40)).alloc (by simp;omega) (.cells #[.string ⟨#[97]⟩,.string ⟨#[98]⟩,.string ⟨#[112]⟩] 9)).alloc (by simp;omega) (.cells #[.int .i64 0,.int .i64 1,.bool false,.string ⟨#[49]⟩,.string ⟨#[50]⟩,.int .i64 0,.int .i64 2,.bool false,.string ⟨#[49]⟩,.string ⟨#[50]⟩,.int .i64 1,.int .i64 0,.bool false,.string ⟨#[49]⟩,.string ⟨#[50]⟩] 59)).setCell (p:=⟨br,0,none⟩) aa _).setCell (p:=⟨br,1,none⟩) aa _).setCell (p:=⟨br,2,none⟩) aa _);have af:Hid (Bk ((((((w3.alloc (.cells #[.bool false,.string ⟨#[49]⟩,.string ⟨#[50]⟩] 40)).alloc (.cells #[.string ⟨#[97]⟩,.string ⟨#[98]⟩,.string ⟨#[112]⟩] 9)).alloc (.cells #[.int .i64 0,.int .i64 1,.bool false,.string ⟨#[49]⟩,.string ⟨#[50]⟩,.int .i64 0,.int .i64 2,.bool false,.string ⟨#[49]⟩,.string ⟨#[50]⟩,.int .i64 1,.int .i64 0,.bool false,.string ⟨#[49]⟩,.string ⟨#[50]⟩] 59)).setCell ⟨br,0,none⟩ (.slice (some ⟨w3.heap.size+1,0,none⟩) 3 3)).setCell ⟨br,1,none⟩ (.slice (some ⟨w3.heap.size+1+1,0,none⟩) 3 3)).setCell ⟨br,2,none⟩ (.slice none 0 0)) br 25 [.slice (some ⟨w3.heap.size+1,0,none⟩) 3 3,.slice (some ⟨w3.heap.size+1+1,0,none⟩) 3 3,.slice none 0 0]):=(Bk.set (Bk.set (Bk.set (((ah.out.alloc (.cells #[.bool false,.string ⟨#[49]⟩,.string ⟨#[50]⟩] 40)).alloc (.cells #[.string ⟨#[97]⟩,.string ⟨#[98]⟩,.string ⟨#[112]⟩] 9)).alloc (.cells #[.int .i64 0,.int .i64 1,.bool false,.string ⟨#[49]⟩,.string ⟨#[50]⟩,.int .i64 0,.int .i64 2,.bool false,.string ⟨#[49]⟩,.string ⟨#[50]⟩,.int .i64 1,.int .i64 0,.bool false,.string ⟨#[49]⟩,.string ⟨#[50]⟩] 59)) 0 _) 1 _) 2 _);have ao:Hid (Bk ((((((w3.alloc (.cells #[.bool false,.string ⟨#[49]⟩,.string ⟨#[50]⟩] 40)).alloc (.cells #[.string ⟨#[97]⟩,.string ⟨#[98]⟩,.string ⟨#[112]⟩] 9)).alloc (.cells #[.int .i64 0,.int .i64 1,.bool false,.string ⟨#[49]⟩,.string ⟨#[50]⟩,.int .i64 0,.int .i64 2,.bool false,.string ⟨#[49]⟩,.string ⟨#[50]⟩,.int .i64 1,.int .i64 0,.bool false,.string ⟨#[49]⟩,.string ⟨#[50]⟩] 59)).setCell ⟨br,0,none⟩ (.slice (some ⟨w3.heap.size+1,0,none⟩) 3 3)).setCell ⟨br,1,none⟩ (.slice (some ⟨w3.heap.size+1+1,0,none⟩) 3 3)).setCell ⟨br,2,none⟩ (.slice none 0 0)) (w3.heap.size+1) 9 [.string ⟨#[97]⟩,.string ⟨#[98]⟩,.string ⟨#[112]⟩]):=(Bk.far (Bk.far (Bk.far ((by have h:=Bk.new (w3.alloc (.cells #[.bool false,.string ⟨#[49]⟩,.string ⟨#[50]⟩] 40)) 9 [.string ⟨#[97]⟩,.string ⟨#[98]⟩,.string ⟨#[112]⟩];rw[World.size_alloc]at h;exact h.alloc (.cells #[.int .i64 0,.int .i64 1,.bool false,.string ⟨#[49]⟩,.string ⟨#[50]⟩,.int .i64 0,.int .i64 2,.bool false,.string ⟨#[49]⟩,.string ⟨#[50]⟩,.int .i64 1,.int .i64 0,.bool false,.string ⟨#[49]⟩,.string ⟨#[50]⟩] 59)):Bk (((w3.alloc (.cells #[.bool false,.string ⟨#[49]⟩,.string ⟨#[50]⟩] 40)).alloc (.cells #[.string ⟨#[97]⟩,.string ⟨#[98]⟩,.string ⟨#[112]⟩] 9)).alloc (.cells #[.int .i64 0,.int .i64 1,.bool false,.string ⟨#[49]⟩,.string ⟨#[50]⟩,.int .i64 0,.int .i64 2,.bool false,.string ⟨#[49]⟩,.string ⟨#[50]⟩,.int .i64 1,.int .i64 0,.bool false,.string ⟨#[49]⟩,.string ⟨#[50]⟩] 59)) (w3.heap.size+1) 9 [.string ⟨#[97]⟩,.string ⟨#[98]⟩,.string ⟨#[112]⟩]) np _) np _) np _);have an:Hid (Bk ((((((w3.alloc (.cells #[.bool false,.string ⟨#[49]⟩,.string ⟨#[50]⟩] 40)).alloc (.cells #[.string ⟨#[97]⟩,.string ⟨#[98]⟩,.string ⟨#[112]⟩] 9)).alloc (.cells #[.int .i64 0,.int .i64 1,.bool false,.string ⟨#[49]⟩,.string ⟨#[50]⟩,.int .i64 0,.int .i64 2,.bool false,.string ⟨#[49]⟩,.string ⟨#[50]⟩,.int .i64 1,.int .i64 0,.bool false,.string ⟨#[49]⟩,.string ⟨#[50]⟩] 59)).setCell ⟨br,0,none⟩ (.slice (some ⟨w3.heap.size+1,0,none⟩) 3 3)).setCell ⟨br,1,none⟩ (.slice (some ⟨w3.heap.size+1+1,0,none⟩) 3 3)).setCell ⟨br,2,none⟩ (.slice none 0 0)) (w3.heap.size+1+1) 59 [.int .i64 0,.int .i64 1,.bool false,.string ⟨#[49]⟩,.string ⟨#[50]⟩,.int .i64 0,.int .i64 2,.bool false,.string ⟨#[49]⟩,.string ⟨#[50]⟩,.int .i64 1,.int .i64 0,.bool false,.string ⟨#[49]⟩,.string ⟨#[50]⟩]):=(Bk.far (Bk.far (Bk.far ((by have h:=Bk.new ((w3.alloc (.cells #[.bool false,.string ⟨#[49]⟩,.string ⟨#[50]⟩] 40)).alloc (.cells #[.string ⟨#[97]⟩,.string ⟨#[98]⟩,.string ⟨#[112]⟩] 9)) 59 [.int .i64 0,.int .i64 1,.bool false,.string ⟨#[49]⟩,.string ⟨#[50]⟩,.int .i64 0,.int .i64 2,.bool false,.string ⟨#[49]⟩,.string ⟨#[50]⟩,.int .i64 1,.int .i64 0,.bool false,.string ⟨#[49]⟩,.string ⟨#[50]⟩];simp only[World.size_alloc]at h;exact h):Bk (((w3.alloc (.cells #[.bool false,.string ⟨#[49]⟩,.string ⟨#[50]⟩] 40)).alloc (.cells #[.string ⟨#[97]⟩,.string ⟨#[98]⟩,.string ⟨#[112]⟩] 9)).alloc (.cells #[.int .i64 0,.int .i64 1,.bool false,.string ⟨#[49]⟩,.string ⟨#[50]⟩,.int .i64 0,.int .i64 2,.bool false,.string ⟨#[49]⟩,.string ⟨#[50]⟩,.int .i64 1,.int .i64 0,.bool false,.string ⟨#[49]⟩,.string ⟨#[50]⟩] 59)) (w3.heap.size+1+1) 59 [.int .i64 0,.int .i64 1,.bool false,.string ⟨#[49]⟩,.string ⟨#[50]⟩,.int .i64 0,.int .i64 2,.bool false,.string ⟨#[49]⟩,.string ⟨#[50]⟩,.int .i64 1,.int .i64 0,.bool false,.string ⟨#[49]⟩,.string ⟨#[50]⟩]) nc _) nc _) nc _);have s0:=af.out.c0;have s1:=af.out.c1;have s2:=af.out.c2;have s9:=af.out.lt;replace s0:=zh s0;replace s1:=zh s1;replace s2:=zh s2;replace s9:=zh s9;clear ah ae al;go_wp2;have t0:=s0.out;have t1:=s1.out;have t2:=s2.out;refine bodyPost_ret (v:=.agg #[.slice (some ⟨w3.heap.size+1,0,none⟩) 3 3,.slice (some ⟨w3.heap.size+1+1,0,none⟩) 3 3,.slice none 0 0]) (by simp[results,Tryz.results32,go_sem,t0,t1,t2]) rfl ⟨⟨_,_,rfl,ao.out,an.out⟩,am.out⟩
end Bd
end
section
open Go.RowKit Go.Shelf
namespace Bd
open Nt Ci Sh
def Smp (W:World) (pb cb:Nat):Prop:=Bk W pb 9 [.string ⟨#[97]⟩,.string ⟨#[98]⟩,.string ⟨#[112]⟩]/\Bk W cb 59 [.int .i64 0,.int .i64 1,.bool false,.string ⟨#[49]⟩,.string ⟨#[50]⟩,.int .i64 0,.int .i64 2,.bool false,.string ⟨#[49]⟩,.string ⟨#[50]⟩,.int .i64 1,.int .i64 0,.bool false,.string ⟨#[49]⟩,.string ⟨#[50]⟩]
theorem Smp.below {W W':World} {pb cb:Nat} (h:Smp W pb cb) (hb:Below W.heap.size W W'):Smp W' pb cb:=⟨h.1.below hb,h.2.below hb⟩
theorem Smp.alloc {W:World} {pb cb:Nat} (h:Smp W pb cb) (o:Obj):Smp (W.alloc o) pb cb:=⟨h.1.alloc o,h.2.alloc o⟩
theorem Smp.st {W:World} {pb cb:Nat} (h:Smp W pb cb):StIn W sM (some ⟨pb,0,none⟩) (some ⟨cb,0,none⟩) none:=stM h.1 h.2
theorem Kg {W:World} {b:Nat} (h:Bk W b 3 [.int .i64 2]):InInt W (some ⟨b,0,none⟩) [2]:=fun _=>⟨b,0,rfl,h.lt,fun j hj=>by
 match j,hj with
 | 0,_=>exact h.c0
 | j+1,hj=>exact absurd hj (by simp)⟩
theorem Wz (w:World) (pb cb fb:Nat) (hE:Env w) (hm:Smp w pb cb) (hf:Bk w fb 3 [.int .i64 2]):∀W,Below w.heap.size w W->Calls Tryz.prog 20 #[.agg #[.slice (some ⟨pb,0,none⟩) 3 3,.slice (some ⟨cb,0,none⟩) 3 3,.slice none 0 0],.slice (some ⟨fb,0,none⟩) 1 1] W fun e w'=>(∃b,e=.returned (.tuple #[.slice (some ⟨b,0,none⟩) 3 3,.int .i64 0])/\RowB w' b 3 (fun p=>rq (ev sM [2] p))/\W.heap.size<=b)/\Below W.heap.size W w':=fun W hW =>
 (Sx sM _ _ none _ 3 3 0 1 [2] W (hE.below hW) (hm.below hW).st (by decide) (by decide) (Kg (hf.below hW)) (by decide)).mono fun e w' h=>by
   obtain⟨h3,h4⟩:=h;rw[if_pos ⟨D6,Hk⟩]at h3;obtain⟨b,e1,e2,e3⟩:=h3;exact⟨⟨b,e1,e3,e2⟩,h4⟩
theorem rkM (w:World) (pb cb fb:Nat) (hE:Env w) (hm:Smp w pb cb) (hf:Bk w fb 3 [.int .i64 2]):∀W,Below w.heap.size w W->Calls Tryz.prog 35 #[.agg #[.slice (some ⟨pb,0,none⟩) 3 3,.slice (some ⟨cb,0,none⟩) 3 3,.slice none 0 0],.slice (some ⟨fb,0,none⟩) 1 1] W fun e w'=>(∃b,e=.returned (.tuple #[.slice (some ⟨b,0,none⟩) 3 3,.int .i64 0])/\RoI w' b 3 (rk (Ad sM) (toN [2]))/\W.heap.size<=b)/\Below W.heap.size W w':=fun W hW =>
 (Fc sM _ _ none _ 3 3 0 1 [2] W (hE.below hW) (hm.below hW).st (by decide) (Kg (hf.below hW)) (by decide)).mono fun e w' h=>by
   obtain⟨h3,h4⟩:=h;rw[if_pos ⟨D6,Hk⟩]at h3;obtain⟨b,e1,e2,e3⟩:=h3;exact⟨⟨b,e1,e3,e2⟩,h4⟩
theorem SD (w:World) (pb cb fb:Nat) (hE:Env w) (hm:Smp w pb cb) (hf:Bk w fb 3 [.int .i64 2]):∀W,Below w.heap.size w W->Calls Tryz.prog 15 #[.agg #[.slice (some ⟨pb,0,none⟩) 3 3,.slice (some ⟨cb,0,none⟩) 3 3,.slice none 0 0],.slice (some ⟨fb,0,none⟩) 1 1] W fun e w'=>(∃b,e=.returned (.tuple #[.agg #[.bool true,.slice (some ⟨b,0,none⟩) 3 3,.slice none 0 0],.int .i64 0])/\RowB w' b 3 (fun p=>rq (ev sM [2] p))/\W.heap.size<=b)/\Below W.heap.size W w':=fun W hW =>
 SA sM _ _ none _ 3 3 0 1 [2] W _ (fun W2 h2=>Wz w pb cb fb hE hm hf W2 (hW.trans (h2.mono hW.size)))
theorem Hi {W:World} {b:Nat} (h:RowB W b 3 (fun p=>rq (ev sM [2] p))):InRow W (some ⟨b,0,none⟩) (V3 q2 q1 1):=by
 have h1:=Im h
 have h2:AN 3 (ev sM [2])=V3 q2 q1 1:=by
  show [rq (ev sM [2] 0),rq (ev sM [2] 1),rq (ev sM [2] 2)]=_
  rw[S8.1,S8.2.1,S8.2.2];rfl
 rw[<-h2];exact h1
theorem Vz {W:World} {b:Nat} (h:RoI W b 3 (rk (Ad sM) (toN [2]))):InInt W (some ⟨b,0,none⟩) [1,2,0]:=by
 have h1:=h.inInt
 have h2:(List.range 3).map (rk (Ad sM) (toN [2]))=[1,2,0]:=by
  show [rk (Ad sM) (toN [2]) 0,rk (Ad sM) (toN [2]) 1,rk (Ad sM) (toN [2]) 2]=_
  rw[S9 0 (by decide),S9 1 (by decide),S9 2 (by decide)];rfl
 rw[<-h2];exact h1
theorem SE (w:World) (pb cb fb:Nat) (hE:Env w) (hm:Smp w pb cb) (hf:Bk w fb 3 [.int .i64 2]):Calls Tryz.prog 15 #[.agg #[.slice (some ⟨pb,0,none⟩) 3 3,.slice (some ⟨cb,0,none⟩) 3 3,.slice none 0 0],.slice (some ⟨fb,0,none⟩) 1 1] w fun e w'=>(∃b,e=.returned (.tuple #[.agg #[.bool true,.slice (some ⟨b,0,none⟩) 3 3,.slice none 0 0],.int .i64 0])/\InRow w' (some ⟨b,0,none⟩) (V3 q2 q1 1))/\Below w.heap.size w w' :=
 (SD w pb cb fb hE hm hf w (Below.refl _ _)).mono fun e w' h=>by
   obtain⟨⟨b,e1,e2,_⟩,h4⟩:=h;exact⟨⟨b,e1,Hi e2⟩,h4⟩
theorem SF (w:World) (pb cb fb:Nat) (hE:Env w) (hm:Smp w pb cb) (hf:Bk w fb 3 [.int .i64 2]):Calls Tryz.prog 13 #[.agg #[.slice (some ⟨pb,0,none⟩) 3 3,.slice (some ⟨cb,0,none⟩) 3 3,.slice none 0 0],.slice (some ⟨fb,0,none⟩) 1 1] w fun e w'=>(∃b b2,e=.returned (.tuple #[.agg #[.bool false,.slice (some ⟨b,0,none⟩) 3 3,.slice (some ⟨b2,0,none⟩) 3 3],.int .i64 0])/\InRow w' (some ⟨b,0,none⟩) (V3 q2 q1 1)/\InInt w' (some ⟨b2,0,none⟩) [1,2,0])/\Below w.heap.size w w' :=
 (SB sM _ _ none _ 3 3 0 1 [2] w _ _ (SD w pb cb fb hE hm hf) (rkM w pb cb fb hE hm hf)).mono fun e w' h=>by
   obtain⟨⟨b,b2,e1,e2,e3⟩,h4⟩:=h;exact⟨⟨b,b2,e1,Hi e2,Vz e3⟩,h4⟩
theorem SH (w:World) (pb cb sb:Nat) (hE:Env w) (hm:Smp w pb cb) (hS:Bk w sb 25 [.slice (some ⟨pb,0,none⟩) 3 3,.slice (some ⟨cb,0,none⟩) 3 3,.slice none 0 0]) (ab:Bool) (Aw Ar:Option Addr) (cw cr:Nat) (V:List Raw) (R:List Int)
 (hV:InRow w Aw V) (ag:V.length<=140737488355328) (aa:∀k (h:k<V.length),V[k].2.1.size<=140737488355328/\V[k].2.2.size<=140737488355328) (hR:InInt w Ar R) (af:R.length<=140737488355328) :
 Calls Tryz.prog 33 #[.agg #[.bool ab,.slice Aw V.length cw,.slice Ar R.length cr],.pointer (some ⟨sb,0,none⟩)] w (ChkPost sM [2] ab V R w):=by
 have ad:Below w.heap.size w (w.alloc (.cells #[.bool ab,.slice Aw V.length cw,.slice Ar R.length cr] 29)):=(Below.refl _ w).alloc (Nat.le_refl _) _;have a:Below w.heap.size w ((w.alloc (.cells #[.bool ab,.slice Aw V.length cw,.slice Ar R.length cr] 29)).alloc (.cells #[.int .i64 2] 3)):=ad.alloc ad.size _;have hf:Bk ((w.alloc (.cells #[.bool ab,.slice Aw V.length cw,.slice Ar R.length cr] 29)).alloc (.cells #[.int .i64 2] 3)) (w.heap.size+1) 3 [.int .i64 2]:=by have h:=Bk.new (w.alloc (.cells #[.bool ab,.slice Aw V.length cw,.slice Ar R.length cr] 29)) 3 [.int .i64 2];rw[World.size_alloc]at h;exact h
 have ae:Bk (w.alloc (.cells #[.bool ab,.slice Aw V.length cw,.slice Ar R.length cr] 29)) w.heap.size 29 [.bool ab,.slice Aw V.length cw,.slice Ar R.length cr]:=Bk.new _ _ _;have hx:=ae.alloc (.cells #[.int .i64 2] 3);have d:=hS.alloc (.cells #[.bool ab,.slice Aw V.length cw,.slice Ar R.length cr] 29);have ah:=d.alloc (.cells #[.int .i64 2] 3);have kc:=zh (Jo sM (some ⟨pb,0,none⟩) (some ⟨cb,0,none⟩) none (some ⟨w.heap.size+1,0,none⟩) Aw Ar 3 3 0 1 cw cr [2] ab V R ((w.alloc (.cells #[.bool ab,.slice Aw V.length cw,.slice Ar R.length cr] 29)).alloc (.cells #[.int .i64 2] 3)) (hE.below a) (hm.below a).st (by decide) (Kg hf) (by decide) (hV.below a (Nat.le_refl _)) ag aa (hR.below a) af);have a0:=d.c0;have a1:=d.c1;have a2:=d.c2;have a9:=d.lt;have x0:=hx.c0;have x1:=hx.c1;have x2:=hx.c2;have x9:=hx.lt;replace a:=zh a;replace hf:=zh hf;replace hE:=zh hE;replace hm:=zh hm;replace hV:=zh hV;replace hR:=zh hR;replace aa:=zh aa;clear ad hx ae d ah hS;go_enter Tryz.func33,Tryz.ntmps33
 go_wp2_with fail
 refine kc.out.mono ?_;rintro e w3 ⟨⟨r,rfl,hr⟩,hb⟩;replace hr:=zh hr;replace hb:=zh hb;clear kc a0 a1 a2 a9 x0 x1 x2 x9
 go_wp2_with fail
 refine bodyPost_ret (v:=.bool r) (by simp[results,Tryz.results33,go_sem]) rfl ⟨⟨r,rfl,hr.out⟩,a.out.trans (hb.out.mono a.out.size)⟩
theorem Un (w:World):Calls Tryz.prog 32 #[] w fun e w'=>(∃pb cb,e=.returned (.agg #[.slice (some ⟨pb,0,none⟩) 3 3,.slice (some ⟨cb,0,none⟩) 3 3,.slice none 0 0])/\Smp w' pb cb)/\Below w.heap.size w w':=Nc w
theorem V3x:V3 q2 q1 1=[(false,⟨#[50]⟩,⟨#[51]⟩),(false,⟨#[49]⟩,⟨#[51]⟩),(false,⟨#[49]⟩,⟨#[49]⟩)]:=by decide +kernel
theorem V3l:V3 (1/2) (1/4) 1=[(false,⟨#[49]⟩,⟨#[50]⟩),(false,⟨#[49]⟩,⟨#[52]⟩),(false,⟨#[49]⟩,⟨#[49]⟩)]:=by decide +kernel
theorem V3o:V3 1 1 1=[(false,⟨#[49]⟩,⟨#[49]⟩),(false,⟨#[49]⟩,⟨#[49]⟩),(false,⟨#[49]⟩,⟨#[49]⟩)]:=by decide +kernel
theorem Wh {W:World} {b:Nat} (h:Bk W b 40 [.bool false,.string ⟨#[50]⟩,.string ⟨#[51]⟩,.bool false,.string ⟨#[49]⟩,.string ⟨#[51]⟩,.bool false,.string ⟨#[49]⟩,.string ⟨#[49]⟩]):InRow W (some ⟨b,0,none⟩) (V3 q2 q1 1):=by rw[V3x];exact Nb (x:=(false,⟨#[50]⟩,⟨#[51]⟩)) (y:=(false,⟨#[49]⟩,⟨#[51]⟩)) (z:=(false,⟨#[49]⟩,⟨#[49]⟩)) h
theorem V0 {W:World} {b:Nat} (h:Bk W b 40 [.bool false,.string ⟨#[49]⟩,.string ⟨#[50]⟩,.bool false,.string ⟨#[49]⟩,.string ⟨#[52]⟩,.bool false,.string ⟨#[49]⟩,.string ⟨#[49]⟩]):InRow W (some ⟨b,0,none⟩) (V3 (1/2) (1/4) 1):=by rw[V3l];exact Nb (x:=(false,⟨#[49]⟩,⟨#[50]⟩)) (y:=(false,⟨#[49]⟩,⟨#[52]⟩)) (z:=(false,⟨#[49]⟩,⟨#[49]⟩)) h
theorem W6 {W:World} {b:Nat} (h:Bk W b 40 [.bool false,.string ⟨#[49]⟩,.string ⟨#[49]⟩,.bool false,.string ⟨#[49]⟩,.string ⟨#[49]⟩,.bool false,.string ⟨#[49]⟩,.string ⟨#[49]⟩]):InRow W (some ⟨b,0,none⟩) (V3 1 1 1):=by rw[V3o];exact Nb (x:=(false,⟨#[49]⟩,⟨#[49]⟩)) (y:=(false,⟨#[49]⟩,⟨#[49]⟩)) (z:=(false,⟨#[49]⟩,⟨#[49]⟩)) h
theorem Kh {W:World} {b:Nat} {x y z:Int} (h:Bk W b 3 [.int .i64 x,.int .i64 y,.int .i64 z]):InInt W (some ⟨b,0,none⟩) [x,y,z]:=fun _=>⟨b,0,rfl,h.lt,fun j hj=>by
 match j,hj with
 | 0,_=>exact h.c0
 | 1,_=>exact h.c1
 | 2,_=>exact h.c2
 | j+3,hj=>exact absurd hj (by simp)⟩
theorem It (W:World):InInt W none []:=fun h=>absurd h (by decide)
theorem UF (ab:Bool) (Aw Ar Aw' Ar':Option Addr) (nr:Nat) (R:List Int) (a b c:Rat) (w:World) (hn:R.length=nr) (hV:InRow w Aw (V3 a b c)) (aa:InRow w Aw' (V3 a b c)) (hR:InInt w Ar R) (d:InInt w Ar' R) (l2:nr<=3) :
 Calls Tryz.prog 17 #[.agg #[.bool ab,.slice Aw 3 3,.slice Ar nr nr],.agg #[.bool ab,.slice Aw' 3 3,.slice Ar' nr nr]] w fun e w'=>e=.returned (.bool true)/\Below w.heap.size w w':=by
 subst hn;refine(Na ab ab Aw Ar Aw' Ar' 3 R.length 3 R.length (V3 a b c) (V3 a b c) R R w hV aa hR d (by show (3:Nat)<_;decide) (Nat.le_trans l2 (by decide))).mono ?_;rintro e w' ⟨rfl,h⟩;exact⟨by simp,h⟩
theorem PA (w:World) (pb cb sb:Nat) (hE:Env w) (hm:Smp w pb cb) (hS:Bk w sb 25 [.slice (some ⟨pb,0,none⟩) 3 3,.slice (some ⟨cb,0,none⟩) 3 3,.slice none 0 0]) (ab:Bool) (Aw Ar:Option Addr) (nr:Nat) (a b c:Rat) (R:List Int) (r0:Bool) (hn:R.length=nr) (l2:nr<=3) (hV:InRow w Aw (V3 a b c)) (hR:InInt w Ar R) (hz:((V3 a b c).all fun x=>decide (x.2.1.size<=10)&&decide (x.2.2.size<=10))=true) (hr:r0=true↔Chk sM [2] ab (V3 a b c) R) :
 Calls Tryz.prog 33 #[.agg #[.bool ab,.slice Aw 3 3,.slice Ar nr nr],.pointer (some ⟨sb,0,none⟩)] w fun e w'=>e=.returned (.bool r0)/\Below w.heap.size w w':=by
 subst hn;refine(SH w pb cb sb hE hm hS ab Aw Ar 3 R.length (V3 a b c) R hV (by show (3:Nat)<=_;decide) (fun k hk=>by have h:=List.all_eq_true.1 hz _ (List.getElem_mem hk);simp only[Bool.and_eq_true,decide_eq_true_eq]at h;omega) hR (Nat.le_trans l2 (by decide))).mono ?_;rintro e w' ⟨⟨r,rfl,h⟩,hb⟩;refine⟨?_,hb⟩;have:r=r0:=by cases r<;>cases r0<;>simp_all
 rw[this]
end Bd
end
end Go.Proofs.YtilodknkildkbaaGreatDoor
